/-
  dump.Node.
-/
import Derived.Test.YtlnckjemfabckaaGreatDoorZ4
namespace Go.Proofs.YtlnckjemfabckaaGreatDoor
open Go.RowKit

theorem own_of_blk {w : World} {g n lo : Nat} {e : TypeId} {cs : Array Value} (h : Blk w g e cs) (hlo : lo ≤ g) (hn : cs.size = n) (hm : n ≤ 1000) : w.ownsRow lo e 1 (.slice (some ⟨g, 0, none⟩) n n) n cs.toList := by
  subst hn
  exact ⟨by simp, .inr ⟨g, cs.size, cs, rfl, hlo, h, Nat.le_refl _, by unfold maxLen; omega, by simp, List.take_of_length_le (by simp)⟩⟩
/-- What stands behind the loads of a node and its version. -/
def NdC (g0 gm gw : Nat) (s t f l p : Int) (ws : List Int) (x : Int) (b : Bool) (ks vs : List Int) (lk : Int) (w : World) (v5 v6 : Value) (wr : World) : Prop :=
  ∃ (bn : Nat) (kv uv : Value), v5 = .pointer (some ⟨bn, 0, none⟩) ∧ v6 = .int .u64 x ∧ Blk wr bn 82 #[.bool b, kv, uv, .int .u64 lk] ∧ Own wr g0 kv ks ∧ Own wr g0 uv vs ∧ MemOk wr gm gw s t f l p ws ∧ Below g0 w wr
def NdW (g4 : Nat) (ws : List ByteArray) (w4 : World) (v : Value) (wr : World) : Prop :=
  ∃ (A : Option Addr) (n c : Nat), v = .slice A n c ∧ ws.length = n ∧ wr.ownsRow g4 9 1 (.slice A n c) n (strs ws) ∧ Below g4 w4 wr
def NdLp (g4 N : Nat) (W0 : List ByteArray) (b : Bool) (ks vs : List Int) (w4 : World) (v7 v58 : Value) (wr : World) : Prop :=
  ∃ (j n : Nat) (A : Option Addr) (c : Nat), v58 = .int .i64 j ∧ j ≤ N ∧ v7 = .slice A n c ∧ 0 < n ∧ n ≤ 4 + 2 * j ∧ wr.ownsRow g4 9 1 (.slice A n c) n (strs (wC W0 b ks vs j)) ∧ Below g4 w4 wr
set_option maxRecDepth 100000 in
set_option maxHeartbeats 4000000 in
theorem dnode_in (gm gw : Nat) (s t f l p k : Int) (ws : List Int) (w : World) (hs : 1 ≤ s ∧ s ≤ 1000) (ht : 1 ≤ t ∧ t ≤ 64) (hf : 4 ≤ f ∧ f ≤ 64) (hk : 0 ≤ k ∧ k ≤ s) (M : MemOk w gm gw s t f l p ws) (h64 : AllW64 ws) (hin : nodI ws t f k = true) :
    Calls Tryz.prog 12 #[.pointer (some ⟨gm, 0, none⟩), .int .i64 k] w fun e w' => e = .returned (.string (nodeT ws t f k)) ∧ Below w.heap.size w w' := by
  obtain ⟨i0, hi0, hz0, hs0, hb0⟩ := info_parts infoStr
  have hbd := nB_bd hs ht hf (sl := k) (by omega)
  have CV := hide (fun w2 => lver_any s t f l p k w2 hs ht hf)
  rw [atpB_6 (by omega)] at CV
  have WD := hide (fun w2 (h : MemOk w2 gm gw s t f l p ws) => word_any gm gw s t f l p (nB t f k) ws w2 h)
  have AN := hide (fun w2 M => anode_yes gm gw s t f l p k ws w2 hs ht hf hk M h64)
  have hx := wGet_w64 h64 (nB t f k)
  have VL := hide (fun w2 => vlocked_any (wGet ws (nB t f k)) w2 hx)
  have VD := hide (fun w2 => vdead_any (wGet ws (nB t f k)) w2 hx)
  have HH : ∃ hv : Int, W64 hv ∧ (∀ w2, MemOk w2 gm gw s t f l p ws → Calls Tryz.prog 43 #[.pointer (some ⟨gm, 0, none⟩), .int .i64 k] w2 fun e w' => e = .returned (.int .u64 hv) ∧ Below w2.heap.size w2 w') ∧ (k ≠ 0 → hv = hmk (vgen (wGet ws (nB t f k))) k) := by
    by_cases h0 : k = 0
    · exact ⟨0, ⟨by omega, by omega⟩, fun w2 M => ahandle_no gm gw s t f l p k ws w2 hs ht hf (by omega) M, fun h => absurd h0 h⟩
    · exact ⟨_, hmk_bound _ _, fun w2 M => ahandle_yes gm gw s t f l p k ws w2 hs ht hf (by omega) M h64, fun _ => rfl⟩
  obtain ⟨hv, hvw, HHC, HHV⟩ := HH
  replace HHC := hide HHC
  have HT := hide (fun w2 => htext_any hv w2 hvw)
  have HK64 := hide (show ∀ x ∈ nodK ws t f k, W64 x from rowL_w64 h64 _ _)
  have HV64 := hide (show ∀ x ∈ nodV ws t f k, W64 x from rowL_w64 h64 _ _)
  have HLK := hide (show W64 (nodL ws t f k) from wGet_w64 h64 _)
  have HVN := hide (show (nodV ws t f k).length ≤ 64 by
    have h1 := nodN_le (t := t) (k := k) h64 hf
    unfold nodV
    rw [rowL_len]
    omega)
  have HKN := hide (show (nodK ws t f k).length = (nodV ws t f k).length - 1 by
    unfold nodK nodV
    rw [rowL_len, rowL_len]
    unfold nodKn
    rw [hin]
    simp)
  have HSZ := hide (nodeT_size ws t f k h64 hf)
  obtain ⟨s0, hs0'⟩ : ∃ s0, s0 = (if k = 0 then anchorB else htx hv) := ⟨_, rfl⟩
  have E := hide (show nodeT ws t f k = joinT (nodeL s0 innerB (vlocked (wGet ws (nB t f k))) (vdead (wGet ws (nB t f k))) true (nodK ws t f k) (nodV ws t f k) (nodL ws t f k)) by
    unfold nodeT
    rw [hin, hs0']
    by_cases h0 : k = 0
    · rw [if_pos h0, if_pos h0]
      rfl
    · rw [if_neg h0, if_neg h0, HHV h0]
      rfl)
  have HS0 := hide hs0'
  rw [hin] at AN
  have h2 : ¬ nB t f k < 0 := by omega
  generalize nodeT ws t f k = R at *
  generalize vlocked (wGet ws (nB t f k)) = lo at *
  generalize vdead (wGet ws (nB t f k)) = de at *
  generalize wGet ws (nB t f k) = x at *
  generalize nodK ws t f k = ks at *
  generalize nodV ws t f k = vs at *
  generalize nodL ws t f k = lk at *
  generalize nB t f k = a at *
  have B0 := Below.refl w.heap.size w
  clear hs ht hf hk hbd hx h64 hin hs0' HHV hvw
  obtain ⟨m0, m1, m2, m3, m4⟩ := mem5 M
  go_enter Tryz.func12, Tryz.ntmps12
  go_wp2_with fail
  refine (CV.out _).mono ?_
  rintro e w1 ⟨rfl, hb1⟩
  replace M := M.below hb1
  replace B0 := B0.trans (hb1.mono B0.size)
  clear m0 m1 m2 m3 m4 hb1
  go_upto_region 3 with fail
  go_cut [5, 6] from 21 to 31 (fun s5 s6 wx => NdC w.heap.size gm gw s t f l p ws x true ks vs lk w s5 s6 wx)
  case first =>
    refine wp_region_heldZ [] (fun w' => w'.cell? ⟨gm, 0, none⟩ = some (.int .i64 s) ∧ w'.cell? ⟨gm, 1, none⟩ = some (.int .i64 t) ∧ w'.cell? ⟨gm, 2, none⟩ = some (.int .i64 f) ∧ w'.cell? ⟨gm, 3, none⟩ = some (.int .i64 l) ∧ w'.cell? ⟨gm, 4, none⟩ = some (.int .i64 p)) (by kernel_rfl) (by exact mem5 M) (fun hHeld => ?_)
    replace M := (show MemOk w1.drew gm gw s t f l p ws from ⟨M.1, M.2⟩)
    replace B0 := B0.drew
    generalize w1.drew = w1d at *
    refine' wpAnyZ_takeA (i := 0) (v := ?_) (opAt rfl) (by kernel_rfl) (by kernel_rfl) (by kernel_rfl) (by kernel_rfl) (fun _ _ _ h => h) (by assumption) (by rfl) (fun w hSw => ?_) ?_
    rotate_left
    · (try dsimp only at hSw); go_simp; (try with_reducible rfl)
    try simp only [Act.put, List.setIfInBounds_toArray, List.set_cons_zero, List.set_cons_succ]
    refine' wpAnyZ_takeA (i := 1) (v := ?_) (opAt rfl) (by kernel_rfl) (by kernel_rfl) (by kernel_rfl) (by kernel_rfl) (fun _ _ _ h => h) (by assumption) (by rfl) (fun w hSw => ?_) ?_
    rotate_left
    · (try dsimp only at hSw); go_simp; (try with_reducible rfl)
    try simp only [Act.put, List.setIfInBounds_toArray, List.set_cons_zero, List.set_cons_succ]
    refine' wpAnyZ_takeA (i := 3) (v := ?_) (opAt rfl) (by kernel_rfl) (by kernel_rfl) (by kernel_rfl) (by kernel_rfl) (fun _ _ _ h => h) (by assumption) (by rfl) (fun w hSw => ?_) ?_
    rotate_left
    · (try dsimp only at hSw); go_simp; (try with_reducible rfl)
    try simp only [Act.put, List.setIfInBounds_toArray, List.set_cons_zero, List.set_cons_succ]
    refine' wpAnyZ_takeA (i := 4) (v := ?_) (opAt rfl) (by kernel_rfl) (by kernel_rfl) (by kernel_rfl) (by kernel_rfl) (fun _ _ _ h => h) (by assumption) (by rfl) (fun w hSw => ?_) ?_
    rotate_left
    · (try dsimp only at hSw); go_simp; (try with_reducible rfl)
    try simp only [Act.put, List.setIfInBounds_toArray, List.set_cons_zero, List.set_cons_succ]
    refine' wpAnyZ_takeA (i := 5) (v := ?_) (opAt rfl) (by kernel_rfl) (by kernel_rfl) (by kernel_rfl) (by kernel_rfl) (fun _ _ _ h => h) (by assumption) (by rfl) (fun w hSw => ?_) ?_
    rotate_left
    · (try dsimp only at hSw); go_simp; (try with_reducible rfl)
    try simp only [Act.put, List.setIfInBounds_toArray, List.set_cons_zero, List.set_cons_succ]
    refine' wpAnyZ_takeA (i := 6) (v := ?_) (opAt rfl) (by kernel_rfl) (by kernel_rfl) (by kernel_rfl) (by kernel_rfl) (fun _ _ _ h => h) (by assumption) (by rfl) (fun w hSw => ?_) ?_
    rotate_left
    · (try dsimp only at hSw); go_simp; (try with_reducible rfl)
    try simp only [Act.put, List.setIfInBounds_toArray, List.set_cons_zero, List.set_cons_succ]
    refine' wpAnyZ_takeA (i := 7) (v := ?_) (opAt rfl) (by kernel_rfl) (by kernel_rfl) (by kernel_rfl) (by kernel_rfl) (fun _ _ _ h => h) (by assumption) (by rfl) (fun w hSw => ?_) ?_
    rotate_left
    · (try dsimp only at hSw); go_simp; (try with_reducible rfl)
    try simp only [Act.put, List.setIfInBounds_toArray, List.set_cons_zero, List.set_cons_succ]
    refine' wpAnyZ_takeA (i := 8) (v := ?_) (opAt rfl) (by kernel_rfl) (by kernel_rfl) (by kernel_rfl) (by kernel_rfl) (fun _ _ _ h => h) (by assumption) (by rfl) (fun w hSw => ?_) ?_
    rotate_left
    · (try dsimp only at hSw); go_simp; (try with_reducible rfl)
    try simp only [Act.put, List.setIfInBounds_toArray, List.set_cons_zero, List.set_cons_succ]
    refine wpAnyZ_ready (rs := [2, 11]) (by kernel_rfl) (by simp) ?_
    refine AllReadyZ.cons (opAt rfl) (fun K hK => ?_) ?_
    · skip
      go_simp
      refine (AN.out _ M).mono ?_
      rintro e w2 ⟨⟨v, rfl, hnd⟩, hb1⟩
      obtain ⟨kv, uv, rfl, o1, o2⟩ := hnd
      obtain ⟨A1, c1, rfl, _⟩ := own_reads o1
      obtain ⟨A2, c2, rfl, _⟩ := own_reads o2
      replace M := M.below hb1
      have o1 := own_mono o1 B0.size
      have o2 := own_mono o2 B0.size
      replace B0 := B0.trans (hb1.mono B0.size)
      clear hb1
      refine hK.out _ _ (by exact mem5 M) (fun hHeld => ?_)
      clear hK K
      try simp only [Act.put, List.setIfInBounds_toArray, List.set_cons_zero, List.set_cons_succ]
      refine wpAnyZ_ready (rs := [9, 11]) (by kernel_rfl) (by simp) ?_
      refine AllReadyZ.cons (opAt rfl) (fun K hK => ?_) ?_
      · skip
        go_simp
        refine (CV.out _).mono ?_
        rintro e w3 ⟨rfl, hb1⟩
        replace M := M.below hb1
        replace o1 := own_below o1 hb1
        replace o2 := own_below o2 hb1
        replace B0 := B0.trans (hb1.mono B0.size)
        clear hb1
        refine hK.out _ _ (by exact mem5 M) (fun hHeld => ?_)
        clear hK K
        try simp only [Act.put, List.setIfInBounds_toArray, List.set_cons_zero, List.set_cons_succ]
        refine wpAnyZ_ready (rs := [10, 11]) (by kernel_rfl) (by simp) ?_
        refine AllReadyZ.cons (opAt rfl) (fun K hK => ?_) ?_
        · skip
          go_simp
          refine (WD.out _ M).mono ?_
          rintro e w4 ⟨rfl, rfl⟩
          refine hK.out _ _ (by exact mem5 M) (fun hHeld => ?_)
          clear hK K
          try simp only [Act.put, List.setIfInBounds_toArray, List.set_cons_zero, List.set_cons_succ]
          refine wpAnyZ_ready (rs := [11]) (by kernel_rfl) (by simp) ?_
          refine AllReadyZ.cons (opAt rfl) (fun K hK => ?_) ?_
          · skip
            go_simp
            have bn := Blk.new w3 82 #[.bool false, .slice none 0 0, .slice none 0 0, .int .u64 0]
            have HGX := hide (show w.heap.size ≤ w3.heap.size from B0.size)
            have HGM := hide (show gm ≠ w3.heap.size ∧ gw ≠ w3.heap.size from ⟨Nat.ne_of_lt (Blk.lt M.1), Nat.ne_of_lt (Blk.lt M.2.1)⟩)
            replace M := M.below ((Below.refl w3.heap.size w3).alloc (Nat.le_refl _) (.cells #[.bool false, .slice none 0 0, .slice none 0 0, .int .u64 0] 82))
            replace o1 := World.ownsRow.alloc o1 (.cells #[.bool false, .slice none 0 0, .slice none 0 0, .int .u64 0] 82)
            replace o2 := World.ownsRow.alloc o2 (.cells #[.bool false, .slice none 0 0, .slice none 0 0, .int .u64 0] 82)
            replace B0 := B0.alloc B0.size (.cells #[.bool false, .slice none 0 0, .slice none 0 0, .int .u64 0] 82)
            generalize w3.alloc (.cells #[.bool false, .slice none 0 0, .slice none 0 0, .int .u64 0] 82) = w5 at *
            generalize w3.heap.size = gx at *
            refine hK.out _ _ (by exact mem5 M) (fun hHeld => ?_)
            clear hK K
            try simp only [Act.put, List.setIfInBounds_toArray, List.set_cons_zero, List.set_cons_succ]
            refine wpAnyZ_ready (rs := [12]) (by kernel_rfl) (by simp) ?_
            refine AllReadyZ.cons (opAt rfl) (fun K hK => ?_) ?_
            · skip
              have zn := fun i => bn.frozen i
              have mn := fun i => bn.cell i
              go_simp
              clear zn mn
              replace M := M.grown (grown_set _ gx 0 (.bool true)) (fun e => by injection e with e; exact HGM.out.1 e) (fun e => by injection e with e; exact HGM.out.2 e)
              replace M := M.grown (grown_set _ gx 1 (.slice A1 ks.length c1)) (fun e => by injection e with e; exact HGM.out.1 e) (fun e => by injection e with e; exact HGM.out.2 e)
              replace M := M.grown (grown_set _ gx 2 (.slice A2 vs.length c2)) (fun e => by injection e with e; exact HGM.out.1 e) (fun e => by injection e with e; exact HGM.out.2 e)
              replace M := M.grown (grown_set _ gx 3 (.int .u64 lk)) (fun e => by injection e with e; exact HGM.out.1 e) (fun e => by injection e with e; exact HGM.out.2 e)
              have HO := hide (And.intro o1 o2)
              clear o1 o2
              have o1 := own_setT (own_setT (own_setT (own_setT (show w5.ownsRow _ _ _ _ _ _ from HO.out.1) bn (by decide) 0 (.bool true)) (bn.set_ 0 (.bool true)) (by decide) 1 (.slice A1 ks.length c1)) ((bn.set_ 0 (.bool true)).set_ 1 (.slice A1 ks.length c1)) (by decide) 2 (.slice A2 vs.length c2)) (((bn.set_ 0 (.bool true)).set_ 1 (.slice A1 ks.length c1)).set_ 2 (.slice A2 vs.length c2)) (by decide) 3 (.int .u64 lk)
              have o2 := own_setT (own_setT (own_setT (own_setT (show w5.ownsRow _ _ _ _ _ _ from HO.out.2) bn (by decide) 0 (.bool true)) (bn.set_ 0 (.bool true)) (by decide) 1 (.slice A1 ks.length c1)) ((bn.set_ 0 (.bool true)).set_ 1 (.slice A1 ks.length c1)) (by decide) 2 (.slice A2 vs.length c2)) (((bn.set_ 0 (.bool true)).set_ 1 (.slice A1 ks.length c1)).set_ 2 (.slice A2 vs.length c2)) (by decide) 3 (.int .u64 lk)
              clear HO
              replace B0 := below_setN (g := gx) B0 HGX.out (.bool true) (.slice A1 ks.length c1) (.slice A2 vs.length c2) (.int .u64 lk)
              replace bn := bn.setN (.bool true) (.slice A1 ks.length c1) (.slice A2 vs.length c2) (.int .u64 lk)
              generalize (((w5.setCell ⟨gx, 0, none⟩ (.bool true)).setCell ⟨gx, 1, none⟩ (.slice A1 ks.length c1)).setCell ⟨gx, 2, none⟩ (.slice A2 vs.length c2)).setCell ⟨gx, 3, none⟩ (.int .u64 lk) = wz at *
              refine hK.out _ _ (by exact mem5 M) (fun hHeld => ?_)
              clear hK K
              try simp only [Act.put, List.setIfInBounds_toArray, List.set_cons_zero, List.set_cons_succ]
              refine' wpAnyZ_takeA (i := 13) (v := ?_) (opAt rfl) (by kernel_rfl) (by kernel_rfl) (by kernel_rfl) (by kernel_rfl) (fun _ _ _ h => h) (by assumption) (by rfl) (fun w hSw => ?_) ?_
              rotate_left
              · (try dsimp only at hSw); go_simp; (try with_reducible rfl)
              try simp only [Act.put, List.setIfInBounds_toArray, List.set_cons_zero, List.set_cons_succ]
              refine wpAnyZ_done (by kernel_rfl) ?_ _
              go_wp2_with fail
              go_meet
              exact ⟨gx, _, _, rfl, rfl, bn, o1, o2, M, B0⟩
            exact AllReadyZ.nil
          exact AllReadyZ.nil
        refine AllReadyZ.cons (opAt rfl) (fun K hK => ?_) ?_
        · skip
          go_simp
          have bn := Blk.new w3 82 #[.bool false, .slice none 0 0, .slice none 0 0, .int .u64 0]
          have HGX := hide (show w.heap.size ≤ w3.heap.size from B0.size)
          have HGM := hide (show gm ≠ w3.heap.size ∧ gw ≠ w3.heap.size from ⟨Nat.ne_of_lt (Blk.lt M.1), Nat.ne_of_lt (Blk.lt M.2.1)⟩)
          replace M := M.below ((Below.refl w3.heap.size w3).alloc (Nat.le_refl _) (.cells #[.bool false, .slice none 0 0, .slice none 0 0, .int .u64 0] 82))
          replace o1 := World.ownsRow.alloc o1 (.cells #[.bool false, .slice none 0 0, .slice none 0 0, .int .u64 0] 82)
          replace o2 := World.ownsRow.alloc o2 (.cells #[.bool false, .slice none 0 0, .slice none 0 0, .int .u64 0] 82)
          replace B0 := B0.alloc B0.size (.cells #[.bool false, .slice none 0 0, .slice none 0 0, .int .u64 0] 82)
          generalize w3.alloc (.cells #[.bool false, .slice none 0 0, .slice none 0 0, .int .u64 0] 82) = w4 at *
          generalize w3.heap.size = gx at *
          refine hK.out _ _ (by exact mem5 M) (fun hHeld => ?_)
          clear hK K
          try simp only [Act.put, List.setIfInBounds_toArray, List.set_cons_zero, List.set_cons_succ]
          refine wpAnyZ_ready (rs := [10]) (by kernel_rfl) (by simp) ?_
          refine AllReadyZ.cons (opAt rfl) (fun K hK => ?_) ?_
          · skip
            go_simp
            refine (WD.out _ M).mono ?_
            rintro e w5 ⟨rfl, rfl⟩
            refine hK.out _ _ (by exact mem5 M) (fun hHeld => ?_)
            clear hK K
            try simp only [Act.put, List.setIfInBounds_toArray, List.set_cons_zero, List.set_cons_succ]
            refine wpAnyZ_ready (rs := [12]) (by kernel_rfl) (by simp) ?_
            refine AllReadyZ.cons (opAt rfl) (fun K hK => ?_) ?_
            · skip
              have zn := fun i => bn.frozen i
              have mn := fun i => bn.cell i
              go_simp
              clear zn mn
              replace M := M.grown (grown_set _ gx 0 (.bool true)) (fun e => by injection e with e; exact HGM.out.1 e) (fun e => by injection e with e; exact HGM.out.2 e)
              replace M := M.grown (grown_set _ gx 1 (.slice A1 ks.length c1)) (fun e => by injection e with e; exact HGM.out.1 e) (fun e => by injection e with e; exact HGM.out.2 e)
              replace M := M.grown (grown_set _ gx 2 (.slice A2 vs.length c2)) (fun e => by injection e with e; exact HGM.out.1 e) (fun e => by injection e with e; exact HGM.out.2 e)
              replace M := M.grown (grown_set _ gx 3 (.int .u64 lk)) (fun e => by injection e with e; exact HGM.out.1 e) (fun e => by injection e with e; exact HGM.out.2 e)
              have HO := hide (And.intro o1 o2)
              clear o1 o2
              have o1 := own_setT (own_setT (own_setT (own_setT (show w4.ownsRow _ _ _ _ _ _ from HO.out.1) bn (by decide) 0 (.bool true)) (bn.set_ 0 (.bool true)) (by decide) 1 (.slice A1 ks.length c1)) ((bn.set_ 0 (.bool true)).set_ 1 (.slice A1 ks.length c1)) (by decide) 2 (.slice A2 vs.length c2)) (((bn.set_ 0 (.bool true)).set_ 1 (.slice A1 ks.length c1)).set_ 2 (.slice A2 vs.length c2)) (by decide) 3 (.int .u64 lk)
              have o2 := own_setT (own_setT (own_setT (own_setT (show w4.ownsRow _ _ _ _ _ _ from HO.out.2) bn (by decide) 0 (.bool true)) (bn.set_ 0 (.bool true)) (by decide) 1 (.slice A1 ks.length c1)) ((bn.set_ 0 (.bool true)).set_ 1 (.slice A1 ks.length c1)) (by decide) 2 (.slice A2 vs.length c2)) (((bn.set_ 0 (.bool true)).set_ 1 (.slice A1 ks.length c1)).set_ 2 (.slice A2 vs.length c2)) (by decide) 3 (.int .u64 lk)
              clear HO
              replace B0 := below_setN (g := gx) B0 HGX.out (.bool true) (.slice A1 ks.length c1) (.slice A2 vs.length c2) (.int .u64 lk)
              replace bn := bn.setN (.bool true) (.slice A1 ks.length c1) (.slice A2 vs.length c2) (.int .u64 lk)
              generalize (((w4.setCell ⟨gx, 0, none⟩ (.bool true)).setCell ⟨gx, 1, none⟩ (.slice A1 ks.length c1)).setCell ⟨gx, 2, none⟩ (.slice A2 vs.length c2)).setCell ⟨gx, 3, none⟩ (.int .u64 lk) = wz at *
              refine hK.out _ _ (by exact mem5 M) (fun hHeld => ?_)
              clear hK K
              try simp only [Act.put, List.setIfInBounds_toArray, List.set_cons_zero, List.set_cons_succ]
              refine' wpAnyZ_takeA (i := 13) (v := ?_) (opAt rfl) (by kernel_rfl) (by kernel_rfl) (by kernel_rfl) (by kernel_rfl) (fun _ _ _ h => h) (by assumption) (by rfl) (fun w hSw => ?_) ?_
              rotate_left
              · (try dsimp only at hSw); go_simp; (try with_reducible rfl)
              try simp only [Act.put, List.setIfInBounds_toArray, List.set_cons_zero, List.set_cons_succ]
              refine wpAnyZ_done (by kernel_rfl) ?_ _
              go_wp2_with fail
              go_meet
              exact ⟨gx, _, _, rfl, rfl, bn, o1, o2, M, B0⟩
            exact AllReadyZ.nil
          exact AllReadyZ.nil
        exact AllReadyZ.nil
      refine AllReadyZ.cons (opAt rfl) (fun K hK => ?_) ?_
      · skip
        go_simp
        have bn := Blk.new w2 82 #[.bool false, .slice none 0 0, .slice none 0 0, .int .u64 0]
        have HGX := hide (show w.heap.size ≤ w2.heap.size from B0.size)
        have HGM := hide (show gm ≠ w2.heap.size ∧ gw ≠ w2.heap.size from ⟨Nat.ne_of_lt (Blk.lt M.1), Nat.ne_of_lt (Blk.lt M.2.1)⟩)
        replace M := M.below ((Below.refl w2.heap.size w2).alloc (Nat.le_refl _) (.cells #[.bool false, .slice none 0 0, .slice none 0 0, .int .u64 0] 82))
        replace o1 := World.ownsRow.alloc o1 (.cells #[.bool false, .slice none 0 0, .slice none 0 0, .int .u64 0] 82)
        replace o2 := World.ownsRow.alloc o2 (.cells #[.bool false, .slice none 0 0, .slice none 0 0, .int .u64 0] 82)
        replace B0 := B0.alloc B0.size (.cells #[.bool false, .slice none 0 0, .slice none 0 0, .int .u64 0] 82)
        generalize w2.alloc (.cells #[.bool false, .slice none 0 0, .slice none 0 0, .int .u64 0] 82) = w3 at *
        generalize w2.heap.size = gx at *
        refine hK.out _ _ (by exact mem5 M) (fun hHeld => ?_)
        clear hK K
        try simp only [Act.put, List.setIfInBounds_toArray, List.set_cons_zero, List.set_cons_succ]
        refine wpAnyZ_ready (rs := [9]) (by kernel_rfl) (by simp) ?_
        refine AllReadyZ.cons (opAt rfl) (fun K hK => ?_) ?_
        · skip
          go_simp
          refine (CV.out _).mono ?_
          rintro e w4 ⟨rfl, hb1⟩
          replace M := M.below hb1
          replace bn := bn.below hb1 bn.lt
          replace o1 := own_below o1 hb1
          replace o2 := own_below o2 hb1
          replace B0 := B0.trans (hb1.mono B0.size)
          clear hb1
          refine hK.out _ _ (by exact mem5 M) (fun hHeld => ?_)
          clear hK K
          try simp only [Act.put, List.setIfInBounds_toArray, List.set_cons_zero, List.set_cons_succ]
          refine wpAnyZ_ready (rs := [10]) (by kernel_rfl) (by simp) ?_
          refine AllReadyZ.cons (opAt rfl) (fun K hK => ?_) ?_
          · skip
            go_simp
            refine (WD.out _ M).mono ?_
            rintro e w5 ⟨rfl, rfl⟩
            refine hK.out _ _ (by exact mem5 M) (fun hHeld => ?_)
            clear hK K
            try simp only [Act.put, List.setIfInBounds_toArray, List.set_cons_zero, List.set_cons_succ]
            refine wpAnyZ_ready (rs := [12]) (by kernel_rfl) (by simp) ?_
            refine AllReadyZ.cons (opAt rfl) (fun K hK => ?_) ?_
            · skip
              have zn := fun i => bn.frozen i
              have mn := fun i => bn.cell i
              go_simp
              clear zn mn
              replace M := M.grown (grown_set _ gx 0 (.bool true)) (fun e => by injection e with e; exact HGM.out.1 e) (fun e => by injection e with e; exact HGM.out.2 e)
              replace M := M.grown (grown_set _ gx 1 (.slice A1 ks.length c1)) (fun e => by injection e with e; exact HGM.out.1 e) (fun e => by injection e with e; exact HGM.out.2 e)
              replace M := M.grown (grown_set _ gx 2 (.slice A2 vs.length c2)) (fun e => by injection e with e; exact HGM.out.1 e) (fun e => by injection e with e; exact HGM.out.2 e)
              replace M := M.grown (grown_set _ gx 3 (.int .u64 lk)) (fun e => by injection e with e; exact HGM.out.1 e) (fun e => by injection e with e; exact HGM.out.2 e)
              have HO := hide (And.intro o1 o2)
              clear o1 o2
              have o1 := own_setT (own_setT (own_setT (own_setT (show w4.ownsRow _ _ _ _ _ _ from HO.out.1) bn (by decide) 0 (.bool true)) (bn.set_ 0 (.bool true)) (by decide) 1 (.slice A1 ks.length c1)) ((bn.set_ 0 (.bool true)).set_ 1 (.slice A1 ks.length c1)) (by decide) 2 (.slice A2 vs.length c2)) (((bn.set_ 0 (.bool true)).set_ 1 (.slice A1 ks.length c1)).set_ 2 (.slice A2 vs.length c2)) (by decide) 3 (.int .u64 lk)
              have o2 := own_setT (own_setT (own_setT (own_setT (show w4.ownsRow _ _ _ _ _ _ from HO.out.2) bn (by decide) 0 (.bool true)) (bn.set_ 0 (.bool true)) (by decide) 1 (.slice A1 ks.length c1)) ((bn.set_ 0 (.bool true)).set_ 1 (.slice A1 ks.length c1)) (by decide) 2 (.slice A2 vs.length c2)) (((bn.set_ 0 (.bool true)).set_ 1 (.slice A1 ks.length c1)).set_ 2 (.slice A2 vs.length c2)) (by decide) 3 (.int .u64 lk)
              clear HO
              replace B0 := below_setN (g := gx) B0 HGX.out (.bool true) (.slice A1 ks.length c1) (.slice A2 vs.length c2) (.int .u64 lk)
              replace bn := bn.setN (.bool true) (.slice A1 ks.length c1) (.slice A2 vs.length c2) (.int .u64 lk)
              generalize (((w4.setCell ⟨gx, 0, none⟩ (.bool true)).setCell ⟨gx, 1, none⟩ (.slice A1 ks.length c1)).setCell ⟨gx, 2, none⟩ (.slice A2 vs.length c2)).setCell ⟨gx, 3, none⟩ (.int .u64 lk) = wz at *
              refine hK.out _ _ (by exact mem5 M) (fun hHeld => ?_)
              clear hK K
              try simp only [Act.put, List.setIfInBounds_toArray, List.set_cons_zero, List.set_cons_succ]
              refine' wpAnyZ_takeA (i := 13) (v := ?_) (opAt rfl) (by kernel_rfl) (by kernel_rfl) (by kernel_rfl) (by kernel_rfl) (fun _ _ _ h => h) (by assumption) (by rfl) (fun w hSw => ?_) ?_
              rotate_left
              · (try dsimp only at hSw); go_simp; (try with_reducible rfl)
              try simp only [Act.put, List.setIfInBounds_toArray, List.set_cons_zero, List.set_cons_succ]
              refine wpAnyZ_done (by kernel_rfl) ?_ _
              go_wp2_with fail
              go_meet
              exact ⟨gx, _, _, rfl, rfl, bn, o1, o2, M, B0⟩
            exact AllReadyZ.nil
          exact AllReadyZ.nil
        exact AllReadyZ.nil
      exact AllReadyZ.nil
    refine AllReadyZ.cons (opAt rfl) (fun K hK => ?_) ?_
    · skip
      go_simp
      have bn := Blk.new w1d 82 #[.bool false, .slice none 0 0, .slice none 0 0, .int .u64 0]
      have HGX := hide (show w.heap.size ≤ w1d.heap.size from B0.size)
      have HGM := hide (show gm ≠ w1d.heap.size ∧ gw ≠ w1d.heap.size from ⟨Nat.ne_of_lt (Blk.lt M.1), Nat.ne_of_lt (Blk.lt M.2.1)⟩)
      replace M := M.below ((Below.refl w1d.heap.size w1d).alloc (Nat.le_refl _) (.cells #[.bool false, .slice none 0 0, .slice none 0 0, .int .u64 0] 82))
      replace B0 := B0.alloc B0.size (.cells #[.bool false, .slice none 0 0, .slice none 0 0, .int .u64 0] 82)
      generalize w1d.alloc (.cells #[.bool false, .slice none 0 0, .slice none 0 0, .int .u64 0] 82) = w2 at *
      generalize w1d.heap.size = gx at *
      refine hK.out _ _ (by exact mem5 M) (fun hHeld => ?_)
      clear hK K
      try simp only [Act.put, List.setIfInBounds_toArray, List.set_cons_zero, List.set_cons_succ]
      refine wpAnyZ_ready (rs := [2]) (by kernel_rfl) (by simp) ?_
      refine AllReadyZ.cons (opAt rfl) (fun K hK => ?_) ?_
      · skip
        go_simp
        refine (AN.out _ M).mono ?_
        rintro e w3 ⟨⟨v, rfl, hnd⟩, hb1⟩
        obtain ⟨kv, uv, rfl, o1, o2⟩ := hnd
        obtain ⟨A1, c1, rfl, _⟩ := own_reads o1
        obtain ⟨A2, c2, rfl, _⟩ := own_reads o2
        replace M := M.below hb1
        replace bn := bn.below hb1 bn.lt
        have o1 := own_mono o1 B0.size
        have o2 := own_mono o2 B0.size
        replace B0 := B0.trans (hb1.mono B0.size)
        clear hb1
        refine hK.out _ _ (by exact mem5 M) (fun hHeld => ?_)
        clear hK K
        try simp only [Act.put, List.setIfInBounds_toArray, List.set_cons_zero, List.set_cons_succ]
        refine wpAnyZ_ready (rs := [9]) (by kernel_rfl) (by simp) ?_
        refine AllReadyZ.cons (opAt rfl) (fun K hK => ?_) ?_
        · skip
          go_simp
          refine (CV.out _).mono ?_
          rintro e w4 ⟨rfl, hb1⟩
          replace M := M.below hb1
          replace bn := bn.below hb1 bn.lt
          replace o1 := own_below o1 hb1
          replace o2 := own_below o2 hb1
          replace B0 := B0.trans (hb1.mono B0.size)
          clear hb1
          refine hK.out _ _ (by exact mem5 M) (fun hHeld => ?_)
          clear hK K
          try simp only [Act.put, List.setIfInBounds_toArray, List.set_cons_zero, List.set_cons_succ]
          refine wpAnyZ_ready (rs := [10]) (by kernel_rfl) (by simp) ?_
          refine AllReadyZ.cons (opAt rfl) (fun K hK => ?_) ?_
          · skip
            go_simp
            refine (WD.out _ M).mono ?_
            rintro e w5 ⟨rfl, rfl⟩
            refine hK.out _ _ (by exact mem5 M) (fun hHeld => ?_)
            clear hK K
            try simp only [Act.put, List.setIfInBounds_toArray, List.set_cons_zero, List.set_cons_succ]
            refine wpAnyZ_ready (rs := [12]) (by kernel_rfl) (by simp) ?_
            refine AllReadyZ.cons (opAt rfl) (fun K hK => ?_) ?_
            · skip
              have zn := fun i => bn.frozen i
              have mn := fun i => bn.cell i
              go_simp
              clear zn mn
              replace M := M.grown (grown_set _ gx 0 (.bool true)) (fun e => by injection e with e; exact HGM.out.1 e) (fun e => by injection e with e; exact HGM.out.2 e)
              replace M := M.grown (grown_set _ gx 1 (.slice A1 ks.length c1)) (fun e => by injection e with e; exact HGM.out.1 e) (fun e => by injection e with e; exact HGM.out.2 e)
              replace M := M.grown (grown_set _ gx 2 (.slice A2 vs.length c2)) (fun e => by injection e with e; exact HGM.out.1 e) (fun e => by injection e with e; exact HGM.out.2 e)
              replace M := M.grown (grown_set _ gx 3 (.int .u64 lk)) (fun e => by injection e with e; exact HGM.out.1 e) (fun e => by injection e with e; exact HGM.out.2 e)
              have HO := hide (And.intro o1 o2)
              clear o1 o2
              have o1 := own_setT (own_setT (own_setT (own_setT (show w4.ownsRow _ _ _ _ _ _ from HO.out.1) bn (by decide) 0 (.bool true)) (bn.set_ 0 (.bool true)) (by decide) 1 (.slice A1 ks.length c1)) ((bn.set_ 0 (.bool true)).set_ 1 (.slice A1 ks.length c1)) (by decide) 2 (.slice A2 vs.length c2)) (((bn.set_ 0 (.bool true)).set_ 1 (.slice A1 ks.length c1)).set_ 2 (.slice A2 vs.length c2)) (by decide) 3 (.int .u64 lk)
              have o2 := own_setT (own_setT (own_setT (own_setT (show w4.ownsRow _ _ _ _ _ _ from HO.out.2) bn (by decide) 0 (.bool true)) (bn.set_ 0 (.bool true)) (by decide) 1 (.slice A1 ks.length c1)) ((bn.set_ 0 (.bool true)).set_ 1 (.slice A1 ks.length c1)) (by decide) 2 (.slice A2 vs.length c2)) (((bn.set_ 0 (.bool true)).set_ 1 (.slice A1 ks.length c1)).set_ 2 (.slice A2 vs.length c2)) (by decide) 3 (.int .u64 lk)
              clear HO
              replace B0 := below_setN (g := gx) B0 HGX.out (.bool true) (.slice A1 ks.length c1) (.slice A2 vs.length c2) (.int .u64 lk)
              replace bn := bn.setN (.bool true) (.slice A1 ks.length c1) (.slice A2 vs.length c2) (.int .u64 lk)
              generalize (((w4.setCell ⟨gx, 0, none⟩ (.bool true)).setCell ⟨gx, 1, none⟩ (.slice A1 ks.length c1)).setCell ⟨gx, 2, none⟩ (.slice A2 vs.length c2)).setCell ⟨gx, 3, none⟩ (.int .u64 lk) = wz at *
              refine hK.out _ _ (by exact mem5 M) (fun hHeld => ?_)
              clear hK K
              try simp only [Act.put, List.setIfInBounds_toArray, List.set_cons_zero, List.set_cons_succ]
              refine' wpAnyZ_takeA (i := 13) (v := ?_) (opAt rfl) (by kernel_rfl) (by kernel_rfl) (by kernel_rfl) (by kernel_rfl) (fun _ _ _ h => h) (by assumption) (by rfl) (fun w hSw => ?_) ?_
              rotate_left
              · (try dsimp only at hSw); go_simp; (try with_reducible rfl)
              try simp only [Act.put, List.setIfInBounds_toArray, List.set_cons_zero, List.set_cons_succ]
              refine wpAnyZ_done (by kernel_rfl) ?_ _
              go_wp2_with fail
              go_meet
              exact ⟨gx, _, _, rfl, rfl, bn, o1, o2, M, B0⟩
            exact AllReadyZ.nil
          exact AllReadyZ.nil
        exact AllReadyZ.nil
      exact AllReadyZ.nil
    exact AllReadyZ.nil
  case rest =>
    clear M B0
    obtain ⟨bn, kv, uv, rfl, rfl, bn0, o1, o2, M, B0⟩ := hcut
    go_wp2_with fail
    refine (HHC.out _ M).mono ?_
    rintro e w3 ⟨rfl, hb1⟩
    replace B0 := B0.trans (hb1.mono B0.size)
    replace o1 := own_below o1 hb1
    replace o2 := own_below o2 hb1
    replace bn0 := bn0.below hb1 bn0.lt
    clear hb1 M
    go_wp2_with fail
    refine (HT.out _).mono ?_
    rintro e w4 ⟨rfl, hb1⟩
    replace B0 := B0.trans (hb1.mono B0.size)
    replace o1 := own_below o1 hb1
    replace o2 := own_below o2 hb1
    replace bn0 := bn0.below hb1 bn0.lt
    clear hb1
    obtain ⟨A1, c1, rfl, R1⟩ := own_reads o1
    obtain ⟨A2, c2, rfl, R2⟩ := own_reads o2
    have HBN := hide bn0
    have HBL := hide bn0.lt
    have HR1 := hide R1
    have HR2 := hide R2
    have HB0 := hide B0
    clear bn0 o1 o2 R1 R2 B0
    have bs := Blk.new w4 9 #[.string (htx hv), .string ⟨#[108, 101, 97, 102]⟩]
    have Bq := (Below.refl w4.heap.size w4).alloc (Nat.le_refl _) (.cells #[.string (htx hv), .string ⟨#[108, 101, 97, 102]⟩] 9)
    generalize htx hv = th at *
    go_upto_if 38 with fail
    generalize hg4 : w4.heap.size = g4 at *
    have HG4 := hide hg4
    clear hg4
    go_cut [] from 38 to 40 (fun wx => Blk wx g4 9 #[.string s0, .string ⟨#[108, 101, 97, 102]⟩] ∧ Below g4 w4 wx)
    case first =>
      cases hq : (k == 0)
      case true =>
        have h0 : k = 0 := by simpa using hq
        clear hq
        have hs9 : s0 = anchorB := HS0.out.trans (if_pos h0)
        have HS9 := hide hs9
        clear h0 hs9
        generalize w4.alloc (.cells #[.string th, .string ⟨#[108, 101, 97, 102]⟩] 9) = wk at *
        have zb := fun i => bs.frozen i
        have mb := fun i => bs.cell i
        go_wp2_with fail
        go_meet
        exact ⟨by rw [HS9.out]; exact bs.set_ 0 (.string ⟨#[97, 110, 99, 104, 111, 114]⟩), Bq.setCell (p := ⟨g4, 0, none⟩) (Nat.le_refl _) _⟩
      case false =>
        have h0 : ¬ k = 0 := by simpa using hq
        clear hq
        have hs9 : s0 = th := HS0.out.trans (if_neg h0)
        have HS9 := hide hs9
        clear h0 hs9
        generalize w4.alloc (.cells #[.string th, .string ⟨#[108, 101, 97, 102]⟩] 9) = wk at *
        go_wp2_with fail
        go_meet
        exact ⟨by rw [HS9.out]; exact bs, Bq⟩
    case rest =>
      clear bs Bq
      obtain ⟨bs, Bq⟩ := hcut
      have bnx := HBN.out.below Bq HBL.out
      have mn := fun i => bnx.cell i
      have zb := fun i => bs.frozen i
      have mb := fun i => bs.cell i
      go_wp2_with fail
      refine (VL.out _).mono ?_
      rintro e w' ⟨rfl, rfl⟩
      clear mn bnx zb mb
      replace bs := bs.set_ 1 (.string ⟨#[105, 110, 110, 101, 114]⟩)
      replace Bq := Bq.setCell (p := ⟨g4, 1, none⟩) (Nat.le_refl _) (.string ⟨#[105, 110, 110, 101, 114]⟩)
      generalize wc.setCell ⟨g4, 1, none⟩ (.string ⟨#[105, 110, 110, 101, 114]⟩) = wm at *
      have ho : wm.ownsRow g4 9 1 (.slice (some ⟨g4, 0, none⟩) 2 2) 2 (strs [s0, innerB]) := own_of_blk bs (Nat.le_refl _) rfl (by omega)
      clear bs
      go_upto_if 46 with fail
      go_cut [7] from 46 to 49 (fun s7 wx => NdW g4 (wA s0 innerB lo) w4 s7 wx)
      case first =>
        cases lo
        · go_wp2_with fail
          go_meet
          exact ⟨_, 2, _, rfl, rfl, ho, Bq⟩
        · skip
          have hr6 := Reads.new wm (strs [⟨#[108, 111, 99, 107, 101, 100]⟩]) 9 1 1 rfl
          replace ho := World.ownsRow.alloc ho (.cells #[.string ⟨#[108, 111, 99, 107, 101, 100]⟩] 9)
          have hsz : g4 ≤ wm.heap.size := by have h1 := Bq.size; have h2 := HG4.out; omega
          replace Bq := Bq.alloc hsz (.cells #[.string ⟨#[108, 111, 99, 107, 101, 100]⟩] 9)
          have bnx := HBN.out.below Bq HBL.out
          have mn := fun i => bnx.cell i
          go_wp2_with (at_builtin; refine wpList_append_any _ rfl (.tmp 47) (.tmp 48) _ rfl g4 9 i0 _ 1 16 Tryz.underlying87 hi0 hz0 hs0 hb0 rfl (by omega) _ (2) _ rfl ho (wm.heap.size + 1) (some ⟨wm.heap.size, 0, none⟩) 1 1 (strs [⟨#[108, 111, 99, 107, 101, 100]⟩]) rfl hr6 (strs_one _) (by unfold maxLen; omega) (by omega) (by simp only [World.size_alloc]; omega) ?_; intro v3 w7 ho3 hg3 hat3; replace Bq := below_appended Bq ho hg3 (Nat.le_refl _) (by simp only [World.size_alloc]; omega); obtain ⟨A3, c3, rfl, _⟩ := own_reads ho3; rw [← strs_app] at ho3; clear ho hg3 hat3 hr6 hsz mn bnx; have ho := ho3; clear ho3; have bnx := HBN.out.below Bq HBL.out; have mn := fun i => bnx.cell i)
          go_meet
          exact ⟨_, 2 + 1, _, rfl, rfl, ho, Bq⟩
      case rest =>
        clear ho Bq
        obtain ⟨A, n, c, rfl, hn, ho, Bq⟩ := hcut
        go_wp2_with fail
        refine (VD.out _).mono ?_
        rintro e w' ⟨rfl, rfl⟩
        have hn3 : n ≤ 3 := by rw [← hn]; cases lo <;> simp [wA]
        have HNE := hide hn
        clear hn
        go_upto_if 51 with fail
        go_cut [7] from 51 to 54 (fun s7 wx => NdW g4 (wB s0 innerB lo de) w4 s7 wx)
        case first =>
          cases de
          · go_wp2_with fail
            go_meet
            exact ⟨_, n, _, rfl, by rw [← HNE.out]; simp [wB], by rw [show wB s0 innerB lo false = wA s0 innerB lo by simp [wB]]; exact ho, Bq⟩
          · skip
            have hr6 := Reads.new wc (strs [⟨#[100, 101, 97, 100]⟩]) 9 1 1 rfl
            replace ho := World.ownsRow.alloc ho (.cells #[.string ⟨#[100, 101, 97, 100]⟩] 9)
            have hsz : g4 ≤ wc.heap.size := by have h1 := Bq.size; have h2 := HG4.out; omega
            replace Bq := Bq.alloc hsz (.cells #[.string ⟨#[100, 101, 97, 100]⟩] 9)
            have bnx := HBN.out.below Bq HBL.out
            have mn := fun i => bnx.cell i
            go_wp2_with (at_builtin; refine wpList_append_any _ rfl (.tmp 52) (.tmp 53) _ rfl g4 9 i0 _ 1 16 Tryz.underlying87 hi0 hz0 hs0 hb0 rfl (by omega) _ (n) _ rfl ho (wc.heap.size + 1) (some ⟨wc.heap.size, 0, none⟩) 1 1 (strs [⟨#[100, 101, 97, 100]⟩]) rfl hr6 (strs_one _) (by unfold maxLen; omega) (by omega) (by simp only [World.size_alloc]; omega) ?_; intro v3 w7 ho3 hg3 hat3; replace Bq := below_appended Bq ho hg3 (Nat.le_refl _) (by simp only [World.size_alloc]; omega); obtain ⟨A3, c3, rfl, _⟩ := own_reads ho3; rw [← strs_app] at ho3; clear ho hg3 hat3 hr6 hsz mn bnx; have ho := ho3; clear ho3; have bnx := HBN.out.below Bq HBL.out; have mn := fun i => bnx.cell i)
            go_meet
            exact ⟨_, n + 1, _, rfl, by rw [← HNE.out]; simp [wB], ho, Bq⟩
        case rest =>
          clear ho Bq HNE
          obtain ⟨A, n, c, rfl, hn, ho, Bq⟩ := hcut
          have HNL := hide (show n ≤ 4 by have := wB_len s0 innerB lo de; omega)
          have HNP := hide (show 0 < n by have := List.length_pos_iff.2 (wB_ne s0 innerB lo de); omega)
          clear hn
          have HEL := hide (show nodeL s0 innerB lo de true ks vs lk = wC (wB s0 innerB lo de) true ks vs vs.length ++ (if true = false ∧ lk ≠ 0 then [nextB, htx lk] else []) from rfl)
          rw [HEL.out] at E
          generalize wB s0 innerB lo de = W0 at *
          clear HEL
          have bnx := HBN.out.below Bq HBL.out
          have mn := fun i => bnx.cell i
          go_wp2_with fail
          clear mn bnx
          obtain ⟨N, hN⟩ : ∃ N, vs.length = N := ⟨_, rfl⟩
          rw [hN]
          have HN := hide hN
          clear hN
          go_loopw [7, 58] (NdLp g4 N W0 true ks vs w4) (fun _ v _ => N - (intOf v).toNat)
          case atStart => exact ⟨0, n, A, c, rfl, by omega, rfl, HNP.out, HNL.out, by rw [wC_zero]; exact ho, Bq⟩
          case round =>
            clear ho Bq
            obtain ⟨j, n1, A3, c3, rfl, hj, rfl, hn1, hn2, ho, Bq⟩ := hrel
            have HN64 := HVN.out
            rw [HN.out] at HN64
            have bnx := HBN.out.below Bq HBL.out
            have mn := fun i => bnx.cell i
            by_cases hlt : j < N
            · have hltz : (j : Int) < (N : Int) := by omega
              have HVB := (HR2.out.below Bq)
              rw [HN.out] at HVB
              obtain ⟨a2, hA2, hl2, z2⟩ := HVB.word hlt
              subst hA2
              have HW2 := HV64.out _ (List.getElem_mem hl2)
              have hg2 : vs.getD j 0 = vs[j] := by simp [List.getD, hl2]
              generalize vs[j] = vj at *
              clear HVB hl2
              have HTV := hide (fun w2 => htext_any vj w2 HW2)
              by_cases hj0 : j = 0
              · have hj1 : ¬ 0 < (j : Int) := by omega
                have HEW := hide (show wC W0 true ks vs (j + 1) = wC W0 true ks vs j ++ [htx vj] by rw [wC_succ]; unfold entW; rw [if_pos rfl, if_pos hj0, hg2])
                clear hg2 HW2 hj0
                generalize htx vj = tv at *
                go_wp2_with fail
                refine (HTV.out _).mono ?_
                rintro e w7 ⟨rfl, hb1⟩
                replace ho := own_below ho hb1
                replace Bq := Bq.trans (hb1.mono (by have h1 := Bq.size; have h2 := HG4.out; omega))
                clear hb1 mn bnx z2
                have hr6 := Reads.new w7 (strs [tv]) 9 1 1 rfl
                replace ho := World.ownsRow.alloc ho (.cells #[.string tv] 9)
                have hsz : g4 ≤ w7.heap.size := by have h1 := Bq.size; have h2 := HG4.out; omega
                replace Bq := Bq.alloc hsz (.cells #[.string tv] 9)
                have bnx := HBN.out.below Bq HBL.out
                have mn := fun i => bnx.cell i
                go_wp2_with (at_builtin; refine wpList_append_any _ rfl (.tmp 63) (.tmp 66) _ rfl g4 9 i0 _ 1 16 Tryz.underlying87 hi0 hz0 hs0 hb0 rfl (by omega) _ (n1) _ rfl ho (w7.heap.size + 1) (some ⟨w7.heap.size, 0, none⟩) 1 1 (strs [tv]) rfl hr6 (strs_one _) (by unfold maxLen; omega) (by omega) (by simp only [World.size_alloc]; omega) ?_; intro v3 w8 ho3 hg3 hat3; replace Bq := below_appended Bq ho hg3 (Nat.le_refl _) (by simp only [World.size_alloc]; omega); obtain ⟨A3, c3, rfl, _⟩ := own_reads ho3; rw [← strs_app] at ho3; clear ho hg3 hat3 hr6 hsz mn bnx; have ho := ho3; clear ho3; have bnx := HBN.out.below Bq HBL.out; have mn := fun i => bnx.cell i)
                go_roundw
                case rel => exact ⟨j + 1, n1 + 1, A3, c3, by go_num, by omega, rfl, by omega, by omega, by rw [HEW.out]; exact ho, Bq⟩
                case measure => simp [intOf]; omega
              · obtain ⟨i, hji⟩ : ∃ i : Nat, j = i + 1 := ⟨j - 1, by omega⟩
                have hi1 : i < N - 1 := by omega
                have HKB := (HR1.out.below Bq)
                rw [HKN.out, HN.out] at HKB
                obtain ⟨a1, hA1, hl1, z1⟩ := HKB.word hi1
                subst hA1
                have HW1 := HK64.out _ (List.getElem_mem hl1)
                have hg1 : ks.getD i 0 = ks[i] := by simp [List.getD, hl1]
                generalize ks[i] = ki at *
                clear HKB hl1
                have DE := hide (fun w2 => texti_any ki w2 HW1)
                have HEW := hide (show wC W0 true ks vs (j + 1) = wC W0 true ks vs j ++ [numI ki, htx vj] by rw [wC_succ]; unfold entW; rw [if_pos rfl, if_neg hj0, hg2, show j - 1 = i by omega, hg1])
                clear hg1 hg2 HW1 HW2
                generalize htx vj = tv at *
                generalize numI ki = nk at *
                have hj1 : 0 < (j : Int) := by omega
                have e1 : wrap64 ((j : Int) - 1) = (i : Int) := by unfold wrap64; omega
                have e2 : (j : Int) - 1 = (i : Int) := by omega
                have hiz : (i : Int) < (ks.length : Int) := by have h1 := HKN.out; have h2 := HN.out; omega
                have hiz2 : i < ks.length := by omega
                have HJI := hide hji
                clear hji
                go_wp2_with fail
                refine (DE.out _).mono ?_
                rintro e w7 ⟨rfl, hb1⟩
                replace ho := own_below ho hb1
                replace Bq := Bq.trans (hb1.mono (by have h1 := Bq.size; have h2 := HG4.out; omega))
                clear hb1 mn bnx z1 z2
                go_wp2_with fail
                refine (HTV.out _).mono ?_
                rintro e w8 ⟨rfl, hb1⟩
                replace ho := own_below ho hb1
                replace Bq := Bq.trans (hb1.mono (by have h1 := Bq.size; have h2 := HG4.out; omega))
                clear hb1
                have hr6 := Reads.new w8 (strs [nk, tv]) 9 2 1 rfl
                replace ho := World.ownsRow.alloc ho (.cells #[.string nk, .string tv] 9)
                have hsz : g4 ≤ w8.heap.size := by have h1 := Bq.size; have h2 := HG4.out; omega
                replace Bq := Bq.alloc hsz (.cells #[.string nk, .string tv] 9)
                have bnx := HBN.out.below Bq HBL.out
                have mn := fun i => bnx.cell i
                go_wp2_with (at_builtin; refine wpList_append_any _ rfl (.tmp 85) (.tmp 95) _ rfl g4 9 i0 _ 1 16 Tryz.underlying87 hi0 hz0 hs0 hb0 rfl (by omega) _ (n1) _ rfl ho (w8.heap.size + 1) (some ⟨w8.heap.size, 0, none⟩) 2 2 (strs [nk, tv]) rfl hr6 (strs_one _) (by unfold maxLen; omega) (by omega) (by simp only [World.size_alloc]; omega) ?_; intro v3 w9 ho3 hg3 hat3; replace Bq := below_appended Bq ho hg3 (Nat.le_refl _) (by simp only [World.size_alloc]; omega); obtain ⟨A3, c3, rfl, _⟩ := own_reads ho3; rw [← strs_app] at ho3; clear ho hg3 hat3 hr6 hsz mn bnx; have ho := ho3; clear ho3; have bnx := HBN.out.below Bq HBL.out; have mn := fun i => bnx.cell i)
                go_roundw
                case rel => exact ⟨j + 1, n1 + 2, A3, c3, by go_num, by omega, rfl, by omega, by omega, by rw [HEW.out]; exact ho, Bq⟩
                case measure => simp [intOf]; omega
            · obtain rfl : j = N := by omega
              have hE : R = joinT (wC W0 true ks vs j) := by rw [E.out, HN.out]; simp
              rw [hE] at HSZ
              have HE := hide hE
              have TX := hide (fun A9 c9 w2 (h : w2.ownsRow g4 9 1 (.slice A9 (n1) c9) (n1) (strs (wC W0 true ks vs j))) => dtext_any g4 (n1) c9 A9 _ w2 h (by omega) (by have := HSZ.out; omega) (by omega))
              clear hE E
              generalize joinT (wC W0 true ks vs j) = Q at *
              have TX2 := hide (TX.out _ _ _ ho)
              clear TX ho
              go_wp2_with fail
              refine (TX2.out).mono ?_
              rintro e w9 ⟨rfl, hb1⟩
              go_wp2_with fail
              go_ret
              exact ⟨by rw [HE.out]; rfl, HB0.out.trans ((Bq.trans (hb1.mono (by have h1 := Bq.size; have h2 := HG4.out; omega))).mono (by rw [← HG4.out]; exact HB0.out.size))⟩
set_option maxRecDepth 100000 in
set_option maxHeartbeats 4000000 in
theorem dnode_leaf (gm gw : Nat) (s t f l p k : Int) (ws : List Int) (w : World) (hs : 1 ≤ s ∧ s ≤ 1000) (ht : 1 ≤ t ∧ t ≤ 64) (hf : 4 ≤ f ∧ f ≤ 64) (hk : 0 ≤ k ∧ k ≤ s) (M : MemOk w gm gw s t f l p ws) (h64 : AllW64 ws) (hin : nodI ws t f k = false) :
    Calls Tryz.prog 12 #[.pointer (some ⟨gm, 0, none⟩), .int .i64 k] w fun e w' => e = .returned (.string (nodeT ws t f k)) ∧ Below w.heap.size w w' := by
  obtain ⟨i0, hi0, hz0, hs0, hb0⟩ := info_parts infoStr
  have hbd := nB_bd hs ht hf (sl := k) (by omega)
  have CV := hide (fun w2 => lver_any s t f l p k w2 hs ht hf)
  rw [atpB_6 (by omega)] at CV
  have WD := hide (fun w2 (h : MemOk w2 gm gw s t f l p ws) => word_any gm gw s t f l p (nB t f k) ws w2 h)
  have AN := hide (fun w2 M => anode_yes gm gw s t f l p k ws w2 hs ht hf hk M h64)
  have hx := wGet_w64 h64 (nB t f k)
  have VL := hide (fun w2 => vlocked_any (wGet ws (nB t f k)) w2 hx)
  have VD := hide (fun w2 => vdead_any (wGet ws (nB t f k)) w2 hx)
  have HH : ∃ hv : Int, W64 hv ∧ (∀ w2, MemOk w2 gm gw s t f l p ws → Calls Tryz.prog 43 #[.pointer (some ⟨gm, 0, none⟩), .int .i64 k] w2 fun e w' => e = .returned (.int .u64 hv) ∧ Below w2.heap.size w2 w') ∧ (k ≠ 0 → hv = hmk (vgen (wGet ws (nB t f k))) k) := by
    by_cases h0 : k = 0
    · exact ⟨0, ⟨by omega, by omega⟩, fun w2 M => ahandle_no gm gw s t f l p k ws w2 hs ht hf (by omega) M, fun h => absurd h0 h⟩
    · exact ⟨_, hmk_bound _ _, fun w2 M => ahandle_yes gm gw s t f l p k ws w2 hs ht hf (by omega) M h64, fun _ => rfl⟩
  obtain ⟨hv, hvw, HHC, HHV⟩ := HH
  replace HHC := hide HHC
  have HT := hide (fun w2 => htext_any hv w2 hvw)
  have HK64 := hide (show ∀ x ∈ nodK ws t f k, W64 x from rowL_w64 h64 _ _)
  have HV64 := hide (show ∀ x ∈ nodV ws t f k, W64 x from rowL_w64 h64 _ _)
  have HLK := hide (show W64 (nodL ws t f k) from wGet_w64 h64 _)
  have HVN := hide (show (nodV ws t f k).length ≤ 64 by
    have h1 := nodN_le (t := t) (k := k) h64 hf
    unfold nodV
    rw [rowL_len]
    omega)
  have HKN := hide (show (nodK ws t f k).length = (nodV ws t f k).length by
    unfold nodK nodV
    rw [rowL_len, rowL_len]
    unfold nodKn
    rw [hin]
    simp)
  have HSZ := hide (nodeT_size ws t f k h64 hf)
  obtain ⟨s0, hs0'⟩ : ∃ s0, s0 = (if k = 0 then anchorB else htx hv) := ⟨_, rfl⟩
  have E := hide (show nodeT ws t f k = joinT (nodeL s0 leafB (vlocked (wGet ws (nB t f k))) (vdead (wGet ws (nB t f k))) false (nodK ws t f k) (nodV ws t f k) (nodL ws t f k)) by
    unfold nodeT
    rw [hin, hs0']
    by_cases h0 : k = 0
    · rw [if_pos h0, if_pos h0]
      rfl
    · rw [if_neg h0, if_neg h0, HHV h0]
      rfl)
  have HS0 := hide hs0'
  rw [hin] at AN
  have h2 : ¬ nB t f k < 0 := by omega
  generalize nodeT ws t f k = R at *
  generalize vlocked (wGet ws (nB t f k)) = lo at *
  generalize vdead (wGet ws (nB t f k)) = de at *
  generalize wGet ws (nB t f k) = x at *
  generalize nodK ws t f k = ks at *
  generalize nodV ws t f k = vs at *
  generalize nodL ws t f k = lk at *
  generalize nB t f k = a at *
  have B0 := Below.refl w.heap.size w
  clear hs ht hf hk hbd hx h64 hin hs0' HHV hvw
  obtain ⟨m0, m1, m2, m3, m4⟩ := mem5 M
  go_enter Tryz.func12, Tryz.ntmps12
  go_wp2_with fail
  refine (CV.out _).mono ?_
  rintro e w1 ⟨rfl, hb1⟩
  replace M := M.below hb1
  replace B0 := B0.trans (hb1.mono B0.size)
  clear m0 m1 m2 m3 m4 hb1
  go_upto_region 3 with fail
  go_cut [5, 6] from 21 to 31 (fun s5 s6 wx => NdC w.heap.size gm gw s t f l p ws x false ks vs lk w s5 s6 wx)
  case first =>
    refine wp_region_heldZ [] (fun w' => w'.cell? ⟨gm, 0, none⟩ = some (.int .i64 s) ∧ w'.cell? ⟨gm, 1, none⟩ = some (.int .i64 t) ∧ w'.cell? ⟨gm, 2, none⟩ = some (.int .i64 f) ∧ w'.cell? ⟨gm, 3, none⟩ = some (.int .i64 l) ∧ w'.cell? ⟨gm, 4, none⟩ = some (.int .i64 p)) (by kernel_rfl) (by exact mem5 M) (fun hHeld => ?_)
    replace M := (show MemOk w1.drew gm gw s t f l p ws from ⟨M.1, M.2⟩)
    replace B0 := B0.drew
    generalize w1.drew = w1d at *
    refine' wpAnyZ_takeA (i := 0) (v := ?_) (opAt rfl) (by kernel_rfl) (by kernel_rfl) (by kernel_rfl) (by kernel_rfl) (fun _ _ _ h => h) (by assumption) (by rfl) (fun w hSw => ?_) ?_
    rotate_left
    · (try dsimp only at hSw); go_simp; (try with_reducible rfl)
    try simp only [Act.put, List.setIfInBounds_toArray, List.set_cons_zero, List.set_cons_succ]
    refine' wpAnyZ_takeA (i := 1) (v := ?_) (opAt rfl) (by kernel_rfl) (by kernel_rfl) (by kernel_rfl) (by kernel_rfl) (fun _ _ _ h => h) (by assumption) (by rfl) (fun w hSw => ?_) ?_
    rotate_left
    · (try dsimp only at hSw); go_simp; (try with_reducible rfl)
    try simp only [Act.put, List.setIfInBounds_toArray, List.set_cons_zero, List.set_cons_succ]
    refine' wpAnyZ_takeA (i := 3) (v := ?_) (opAt rfl) (by kernel_rfl) (by kernel_rfl) (by kernel_rfl) (by kernel_rfl) (fun _ _ _ h => h) (by assumption) (by rfl) (fun w hSw => ?_) ?_
    rotate_left
    · (try dsimp only at hSw); go_simp; (try with_reducible rfl)
    try simp only [Act.put, List.setIfInBounds_toArray, List.set_cons_zero, List.set_cons_succ]
    refine' wpAnyZ_takeA (i := 4) (v := ?_) (opAt rfl) (by kernel_rfl) (by kernel_rfl) (by kernel_rfl) (by kernel_rfl) (fun _ _ _ h => h) (by assumption) (by rfl) (fun w hSw => ?_) ?_
    rotate_left
    · (try dsimp only at hSw); go_simp; (try with_reducible rfl)
    try simp only [Act.put, List.setIfInBounds_toArray, List.set_cons_zero, List.set_cons_succ]
    refine' wpAnyZ_takeA (i := 5) (v := ?_) (opAt rfl) (by kernel_rfl) (by kernel_rfl) (by kernel_rfl) (by kernel_rfl) (fun _ _ _ h => h) (by assumption) (by rfl) (fun w hSw => ?_) ?_
    rotate_left
    · (try dsimp only at hSw); go_simp; (try with_reducible rfl)
    try simp only [Act.put, List.setIfInBounds_toArray, List.set_cons_zero, List.set_cons_succ]
    refine' wpAnyZ_takeA (i := 6) (v := ?_) (opAt rfl) (by kernel_rfl) (by kernel_rfl) (by kernel_rfl) (by kernel_rfl) (fun _ _ _ h => h) (by assumption) (by rfl) (fun w hSw => ?_) ?_
    rotate_left
    · (try dsimp only at hSw); go_simp; (try with_reducible rfl)
    try simp only [Act.put, List.setIfInBounds_toArray, List.set_cons_zero, List.set_cons_succ]
    refine' wpAnyZ_takeA (i := 7) (v := ?_) (opAt rfl) (by kernel_rfl) (by kernel_rfl) (by kernel_rfl) (by kernel_rfl) (fun _ _ _ h => h) (by assumption) (by rfl) (fun w hSw => ?_) ?_
    rotate_left
    · (try dsimp only at hSw); go_simp; (try with_reducible rfl)
    try simp only [Act.put, List.setIfInBounds_toArray, List.set_cons_zero, List.set_cons_succ]
    refine' wpAnyZ_takeA (i := 8) (v := ?_) (opAt rfl) (by kernel_rfl) (by kernel_rfl) (by kernel_rfl) (by kernel_rfl) (fun _ _ _ h => h) (by assumption) (by rfl) (fun w hSw => ?_) ?_
    rotate_left
    · (try dsimp only at hSw); go_simp; (try with_reducible rfl)
    try simp only [Act.put, List.setIfInBounds_toArray, List.set_cons_zero, List.set_cons_succ]
    refine wpAnyZ_ready (rs := [2, 11]) (by kernel_rfl) (by simp) ?_
    refine AllReadyZ.cons (opAt rfl) (fun K hK => ?_) ?_
    · skip
      go_simp
      refine (AN.out _ M).mono ?_
      rintro e w2 ⟨⟨v, rfl, hnd⟩, hb1⟩
      obtain ⟨kv, uv, rfl, o1, o2⟩ := hnd
      obtain ⟨A1, c1, rfl, _⟩ := own_reads o1
      obtain ⟨A2, c2, rfl, _⟩ := own_reads o2
      replace M := M.below hb1
      have o1 := own_mono o1 B0.size
      have o2 := own_mono o2 B0.size
      replace B0 := B0.trans (hb1.mono B0.size)
      clear hb1
      refine hK.out _ _ (by exact mem5 M) (fun hHeld => ?_)
      clear hK K
      try simp only [Act.put, List.setIfInBounds_toArray, List.set_cons_zero, List.set_cons_succ]
      refine wpAnyZ_ready (rs := [9, 11]) (by kernel_rfl) (by simp) ?_
      refine AllReadyZ.cons (opAt rfl) (fun K hK => ?_) ?_
      · skip
        go_simp
        refine (CV.out _).mono ?_
        rintro e w3 ⟨rfl, hb1⟩
        replace M := M.below hb1
        replace o1 := own_below o1 hb1
        replace o2 := own_below o2 hb1
        replace B0 := B0.trans (hb1.mono B0.size)
        clear hb1
        refine hK.out _ _ (by exact mem5 M) (fun hHeld => ?_)
        clear hK K
        try simp only [Act.put, List.setIfInBounds_toArray, List.set_cons_zero, List.set_cons_succ]
        refine wpAnyZ_ready (rs := [10, 11]) (by kernel_rfl) (by simp) ?_
        refine AllReadyZ.cons (opAt rfl) (fun K hK => ?_) ?_
        · skip
          go_simp
          refine (WD.out _ M).mono ?_
          rintro e w4 ⟨rfl, rfl⟩
          refine hK.out _ _ (by exact mem5 M) (fun hHeld => ?_)
          clear hK K
          try simp only [Act.put, List.setIfInBounds_toArray, List.set_cons_zero, List.set_cons_succ]
          refine wpAnyZ_ready (rs := [11]) (by kernel_rfl) (by simp) ?_
          refine AllReadyZ.cons (opAt rfl) (fun K hK => ?_) ?_
          · skip
            go_simp
            have bn := Blk.new w3 82 #[.bool false, .slice none 0 0, .slice none 0 0, .int .u64 0]
            have HGX := hide (show w.heap.size ≤ w3.heap.size from B0.size)
            have HGM := hide (show gm ≠ w3.heap.size ∧ gw ≠ w3.heap.size from ⟨Nat.ne_of_lt (Blk.lt M.1), Nat.ne_of_lt (Blk.lt M.2.1)⟩)
            replace M := M.below ((Below.refl w3.heap.size w3).alloc (Nat.le_refl _) (.cells #[.bool false, .slice none 0 0, .slice none 0 0, .int .u64 0] 82))
            replace o1 := World.ownsRow.alloc o1 (.cells #[.bool false, .slice none 0 0, .slice none 0 0, .int .u64 0] 82)
            replace o2 := World.ownsRow.alloc o2 (.cells #[.bool false, .slice none 0 0, .slice none 0 0, .int .u64 0] 82)
            replace B0 := B0.alloc B0.size (.cells #[.bool false, .slice none 0 0, .slice none 0 0, .int .u64 0] 82)
            generalize w3.alloc (.cells #[.bool false, .slice none 0 0, .slice none 0 0, .int .u64 0] 82) = w5 at *
            generalize w3.heap.size = gx at *
            refine hK.out _ _ (by exact mem5 M) (fun hHeld => ?_)
            clear hK K
            try simp only [Act.put, List.setIfInBounds_toArray, List.set_cons_zero, List.set_cons_succ]
            refine wpAnyZ_ready (rs := [12]) (by kernel_rfl) (by simp) ?_
            refine AllReadyZ.cons (opAt rfl) (fun K hK => ?_) ?_
            · skip
              have zn := fun i => bn.frozen i
              have mn := fun i => bn.cell i
              go_simp
              clear zn mn
              replace M := M.grown (grown_set _ gx 0 (.bool false)) (fun e => by injection e with e; exact HGM.out.1 e) (fun e => by injection e with e; exact HGM.out.2 e)
              replace M := M.grown (grown_set _ gx 1 (.slice A1 ks.length c1)) (fun e => by injection e with e; exact HGM.out.1 e) (fun e => by injection e with e; exact HGM.out.2 e)
              replace M := M.grown (grown_set _ gx 2 (.slice A2 vs.length c2)) (fun e => by injection e with e; exact HGM.out.1 e) (fun e => by injection e with e; exact HGM.out.2 e)
              replace M := M.grown (grown_set _ gx 3 (.int .u64 lk)) (fun e => by injection e with e; exact HGM.out.1 e) (fun e => by injection e with e; exact HGM.out.2 e)
              have HO := hide (And.intro o1 o2)
              clear o1 o2
              have o1 := own_setT (own_setT (own_setT (own_setT (show w5.ownsRow _ _ _ _ _ _ from HO.out.1) bn (by decide) 0 (.bool false)) (bn.set_ 0 (.bool false)) (by decide) 1 (.slice A1 ks.length c1)) ((bn.set_ 0 (.bool false)).set_ 1 (.slice A1 ks.length c1)) (by decide) 2 (.slice A2 vs.length c2)) (((bn.set_ 0 (.bool false)).set_ 1 (.slice A1 ks.length c1)).set_ 2 (.slice A2 vs.length c2)) (by decide) 3 (.int .u64 lk)
              have o2 := own_setT (own_setT (own_setT (own_setT (show w5.ownsRow _ _ _ _ _ _ from HO.out.2) bn (by decide) 0 (.bool false)) (bn.set_ 0 (.bool false)) (by decide) 1 (.slice A1 ks.length c1)) ((bn.set_ 0 (.bool false)).set_ 1 (.slice A1 ks.length c1)) (by decide) 2 (.slice A2 vs.length c2)) (((bn.set_ 0 (.bool false)).set_ 1 (.slice A1 ks.length c1)).set_ 2 (.slice A2 vs.length c2)) (by decide) 3 (.int .u64 lk)
              clear HO
              replace B0 := below_setN (g := gx) B0 HGX.out (.bool false) (.slice A1 ks.length c1) (.slice A2 vs.length c2) (.int .u64 lk)
              replace bn := bn.setN (.bool false) (.slice A1 ks.length c1) (.slice A2 vs.length c2) (.int .u64 lk)
              generalize (((w5.setCell ⟨gx, 0, none⟩ (.bool false)).setCell ⟨gx, 1, none⟩ (.slice A1 ks.length c1)).setCell ⟨gx, 2, none⟩ (.slice A2 vs.length c2)).setCell ⟨gx, 3, none⟩ (.int .u64 lk) = wz at *
              refine hK.out _ _ (by exact mem5 M) (fun hHeld => ?_)
              clear hK K
              try simp only [Act.put, List.setIfInBounds_toArray, List.set_cons_zero, List.set_cons_succ]
              refine' wpAnyZ_takeA (i := 13) (v := ?_) (opAt rfl) (by kernel_rfl) (by kernel_rfl) (by kernel_rfl) (by kernel_rfl) (fun _ _ _ h => h) (by assumption) (by rfl) (fun w hSw => ?_) ?_
              rotate_left
              · (try dsimp only at hSw); go_simp; (try with_reducible rfl)
              try simp only [Act.put, List.setIfInBounds_toArray, List.set_cons_zero, List.set_cons_succ]
              refine wpAnyZ_done (by kernel_rfl) ?_ _
              go_wp2_with fail
              go_meet
              exact ⟨gx, _, _, rfl, rfl, bn, o1, o2, M, B0⟩
            exact AllReadyZ.nil
          exact AllReadyZ.nil
        refine AllReadyZ.cons (opAt rfl) (fun K hK => ?_) ?_
        · skip
          go_simp
          have bn := Blk.new w3 82 #[.bool false, .slice none 0 0, .slice none 0 0, .int .u64 0]
          have HGX := hide (show w.heap.size ≤ w3.heap.size from B0.size)
          have HGM := hide (show gm ≠ w3.heap.size ∧ gw ≠ w3.heap.size from ⟨Nat.ne_of_lt (Blk.lt M.1), Nat.ne_of_lt (Blk.lt M.2.1)⟩)
          replace M := M.below ((Below.refl w3.heap.size w3).alloc (Nat.le_refl _) (.cells #[.bool false, .slice none 0 0, .slice none 0 0, .int .u64 0] 82))
          replace o1 := World.ownsRow.alloc o1 (.cells #[.bool false, .slice none 0 0, .slice none 0 0, .int .u64 0] 82)
          replace o2 := World.ownsRow.alloc o2 (.cells #[.bool false, .slice none 0 0, .slice none 0 0, .int .u64 0] 82)
          replace B0 := B0.alloc B0.size (.cells #[.bool false, .slice none 0 0, .slice none 0 0, .int .u64 0] 82)
          generalize w3.alloc (.cells #[.bool false, .slice none 0 0, .slice none 0 0, .int .u64 0] 82) = w4 at *
          generalize w3.heap.size = gx at *
          refine hK.out _ _ (by exact mem5 M) (fun hHeld => ?_)
          clear hK K
          try simp only [Act.put, List.setIfInBounds_toArray, List.set_cons_zero, List.set_cons_succ]
          refine wpAnyZ_ready (rs := [10]) (by kernel_rfl) (by simp) ?_
          refine AllReadyZ.cons (opAt rfl) (fun K hK => ?_) ?_
          · skip
            go_simp
            refine (WD.out _ M).mono ?_
            rintro e w5 ⟨rfl, rfl⟩
            refine hK.out _ _ (by exact mem5 M) (fun hHeld => ?_)
            clear hK K
            try simp only [Act.put, List.setIfInBounds_toArray, List.set_cons_zero, List.set_cons_succ]
            refine wpAnyZ_ready (rs := [12]) (by kernel_rfl) (by simp) ?_
            refine AllReadyZ.cons (opAt rfl) (fun K hK => ?_) ?_
            · skip
              have zn := fun i => bn.frozen i
              have mn := fun i => bn.cell i
              go_simp
              clear zn mn
              replace M := M.grown (grown_set _ gx 0 (.bool false)) (fun e => by injection e with e; exact HGM.out.1 e) (fun e => by injection e with e; exact HGM.out.2 e)
              replace M := M.grown (grown_set _ gx 1 (.slice A1 ks.length c1)) (fun e => by injection e with e; exact HGM.out.1 e) (fun e => by injection e with e; exact HGM.out.2 e)
              replace M := M.grown (grown_set _ gx 2 (.slice A2 vs.length c2)) (fun e => by injection e with e; exact HGM.out.1 e) (fun e => by injection e with e; exact HGM.out.2 e)
              replace M := M.grown (grown_set _ gx 3 (.int .u64 lk)) (fun e => by injection e with e; exact HGM.out.1 e) (fun e => by injection e with e; exact HGM.out.2 e)
              have HO := hide (And.intro o1 o2)
              clear o1 o2
              have o1 := own_setT (own_setT (own_setT (own_setT (show w4.ownsRow _ _ _ _ _ _ from HO.out.1) bn (by decide) 0 (.bool false)) (bn.set_ 0 (.bool false)) (by decide) 1 (.slice A1 ks.length c1)) ((bn.set_ 0 (.bool false)).set_ 1 (.slice A1 ks.length c1)) (by decide) 2 (.slice A2 vs.length c2)) (((bn.set_ 0 (.bool false)).set_ 1 (.slice A1 ks.length c1)).set_ 2 (.slice A2 vs.length c2)) (by decide) 3 (.int .u64 lk)
              have o2 := own_setT (own_setT (own_setT (own_setT (show w4.ownsRow _ _ _ _ _ _ from HO.out.2) bn (by decide) 0 (.bool false)) (bn.set_ 0 (.bool false)) (by decide) 1 (.slice A1 ks.length c1)) ((bn.set_ 0 (.bool false)).set_ 1 (.slice A1 ks.length c1)) (by decide) 2 (.slice A2 vs.length c2)) (((bn.set_ 0 (.bool false)).set_ 1 (.slice A1 ks.length c1)).set_ 2 (.slice A2 vs.length c2)) (by decide) 3 (.int .u64 lk)
              clear HO
              replace B0 := below_setN (g := gx) B0 HGX.out (.bool false) (.slice A1 ks.length c1) (.slice A2 vs.length c2) (.int .u64 lk)
              replace bn := bn.setN (.bool false) (.slice A1 ks.length c1) (.slice A2 vs.length c2) (.int .u64 lk)
              generalize (((w4.setCell ⟨gx, 0, none⟩ (.bool false)).setCell ⟨gx, 1, none⟩ (.slice A1 ks.length c1)).setCell ⟨gx, 2, none⟩ (.slice A2 vs.length c2)).setCell ⟨gx, 3, none⟩ (.int .u64 lk) = wz at *
              refine hK.out _ _ (by exact mem5 M) (fun hHeld => ?_)
              clear hK K
              try simp only [Act.put, List.setIfInBounds_toArray, List.set_cons_zero, List.set_cons_succ]
              refine' wpAnyZ_takeA (i := 13) (v := ?_) (opAt rfl) (by kernel_rfl) (by kernel_rfl) (by kernel_rfl) (by kernel_rfl) (fun _ _ _ h => h) (by assumption) (by rfl) (fun w hSw => ?_) ?_
              rotate_left
              · (try dsimp only at hSw); go_simp; (try with_reducible rfl)
              try simp only [Act.put, List.setIfInBounds_toArray, List.set_cons_zero, List.set_cons_succ]
              refine wpAnyZ_done (by kernel_rfl) ?_ _
              go_wp2_with fail
              go_meet
              exact ⟨gx, _, _, rfl, rfl, bn, o1, o2, M, B0⟩
            exact AllReadyZ.nil
          exact AllReadyZ.nil
        exact AllReadyZ.nil
      refine AllReadyZ.cons (opAt rfl) (fun K hK => ?_) ?_
      · skip
        go_simp
        have bn := Blk.new w2 82 #[.bool false, .slice none 0 0, .slice none 0 0, .int .u64 0]
        have HGX := hide (show w.heap.size ≤ w2.heap.size from B0.size)
        have HGM := hide (show gm ≠ w2.heap.size ∧ gw ≠ w2.heap.size from ⟨Nat.ne_of_lt (Blk.lt M.1), Nat.ne_of_lt (Blk.lt M.2.1)⟩)
        replace M := M.below ((Below.refl w2.heap.size w2).alloc (Nat.le_refl _) (.cells #[.bool false, .slice none 0 0, .slice none 0 0, .int .u64 0] 82))
        replace o1 := World.ownsRow.alloc o1 (.cells #[.bool false, .slice none 0 0, .slice none 0 0, .int .u64 0] 82)
        replace o2 := World.ownsRow.alloc o2 (.cells #[.bool false, .slice none 0 0, .slice none 0 0, .int .u64 0] 82)
        replace B0 := B0.alloc B0.size (.cells #[.bool false, .slice none 0 0, .slice none 0 0, .int .u64 0] 82)
        generalize w2.alloc (.cells #[.bool false, .slice none 0 0, .slice none 0 0, .int .u64 0] 82) = w3 at *
        generalize w2.heap.size = gx at *
        refine hK.out _ _ (by exact mem5 M) (fun hHeld => ?_)
        clear hK K
        try simp only [Act.put, List.setIfInBounds_toArray, List.set_cons_zero, List.set_cons_succ]
        refine wpAnyZ_ready (rs := [9]) (by kernel_rfl) (by simp) ?_
        refine AllReadyZ.cons (opAt rfl) (fun K hK => ?_) ?_
        · skip
          go_simp
          refine (CV.out _).mono ?_
          rintro e w4 ⟨rfl, hb1⟩
          replace M := M.below hb1
          replace bn := bn.below hb1 bn.lt
          replace o1 := own_below o1 hb1
          replace o2 := own_below o2 hb1
          replace B0 := B0.trans (hb1.mono B0.size)
          clear hb1
          refine hK.out _ _ (by exact mem5 M) (fun hHeld => ?_)
          clear hK K
          try simp only [Act.put, List.setIfInBounds_toArray, List.set_cons_zero, List.set_cons_succ]
          refine wpAnyZ_ready (rs := [10]) (by kernel_rfl) (by simp) ?_
          refine AllReadyZ.cons (opAt rfl) (fun K hK => ?_) ?_
          · skip
            go_simp
            refine (WD.out _ M).mono ?_
            rintro e w5 ⟨rfl, rfl⟩
            refine hK.out _ _ (by exact mem5 M) (fun hHeld => ?_)
            clear hK K
            try simp only [Act.put, List.setIfInBounds_toArray, List.set_cons_zero, List.set_cons_succ]
            refine wpAnyZ_ready (rs := [12]) (by kernel_rfl) (by simp) ?_
            refine AllReadyZ.cons (opAt rfl) (fun K hK => ?_) ?_
            · skip
              have zn := fun i => bn.frozen i
              have mn := fun i => bn.cell i
              go_simp
              clear zn mn
              replace M := M.grown (grown_set _ gx 0 (.bool false)) (fun e => by injection e with e; exact HGM.out.1 e) (fun e => by injection e with e; exact HGM.out.2 e)
              replace M := M.grown (grown_set _ gx 1 (.slice A1 ks.length c1)) (fun e => by injection e with e; exact HGM.out.1 e) (fun e => by injection e with e; exact HGM.out.2 e)
              replace M := M.grown (grown_set _ gx 2 (.slice A2 vs.length c2)) (fun e => by injection e with e; exact HGM.out.1 e) (fun e => by injection e with e; exact HGM.out.2 e)
              replace M := M.grown (grown_set _ gx 3 (.int .u64 lk)) (fun e => by injection e with e; exact HGM.out.1 e) (fun e => by injection e with e; exact HGM.out.2 e)
              have HO := hide (And.intro o1 o2)
              clear o1 o2
              have o1 := own_setT (own_setT (own_setT (own_setT (show w4.ownsRow _ _ _ _ _ _ from HO.out.1) bn (by decide) 0 (.bool false)) (bn.set_ 0 (.bool false)) (by decide) 1 (.slice A1 ks.length c1)) ((bn.set_ 0 (.bool false)).set_ 1 (.slice A1 ks.length c1)) (by decide) 2 (.slice A2 vs.length c2)) (((bn.set_ 0 (.bool false)).set_ 1 (.slice A1 ks.length c1)).set_ 2 (.slice A2 vs.length c2)) (by decide) 3 (.int .u64 lk)
              have o2 := own_setT (own_setT (own_setT (own_setT (show w4.ownsRow _ _ _ _ _ _ from HO.out.2) bn (by decide) 0 (.bool false)) (bn.set_ 0 (.bool false)) (by decide) 1 (.slice A1 ks.length c1)) ((bn.set_ 0 (.bool false)).set_ 1 (.slice A1 ks.length c1)) (by decide) 2 (.slice A2 vs.length c2)) (((bn.set_ 0 (.bool false)).set_ 1 (.slice A1 ks.length c1)).set_ 2 (.slice A2 vs.length c2)) (by decide) 3 (.int .u64 lk)
              clear HO
              replace B0 := below_setN (g := gx) B0 HGX.out (.bool false) (.slice A1 ks.length c1) (.slice A2 vs.length c2) (.int .u64 lk)
              replace bn := bn.setN (.bool false) (.slice A1 ks.length c1) (.slice A2 vs.length c2) (.int .u64 lk)
              generalize (((w4.setCell ⟨gx, 0, none⟩ (.bool false)).setCell ⟨gx, 1, none⟩ (.slice A1 ks.length c1)).setCell ⟨gx, 2, none⟩ (.slice A2 vs.length c2)).setCell ⟨gx, 3, none⟩ (.int .u64 lk) = wz at *
              refine hK.out _ _ (by exact mem5 M) (fun hHeld => ?_)
              clear hK K
              try simp only [Act.put, List.setIfInBounds_toArray, List.set_cons_zero, List.set_cons_succ]
              refine' wpAnyZ_takeA (i := 13) (v := ?_) (opAt rfl) (by kernel_rfl) (by kernel_rfl) (by kernel_rfl) (by kernel_rfl) (fun _ _ _ h => h) (by assumption) (by rfl) (fun w hSw => ?_) ?_
              rotate_left
              · (try dsimp only at hSw); go_simp; (try with_reducible rfl)
              try simp only [Act.put, List.setIfInBounds_toArray, List.set_cons_zero, List.set_cons_succ]
              refine wpAnyZ_done (by kernel_rfl) ?_ _
              go_wp2_with fail
              go_meet
              exact ⟨gx, _, _, rfl, rfl, bn, o1, o2, M, B0⟩
            exact AllReadyZ.nil
          exact AllReadyZ.nil
        exact AllReadyZ.nil
      exact AllReadyZ.nil
    refine AllReadyZ.cons (opAt rfl) (fun K hK => ?_) ?_
    · skip
      go_simp
      have bn := Blk.new w1d 82 #[.bool false, .slice none 0 0, .slice none 0 0, .int .u64 0]
      have HGX := hide (show w.heap.size ≤ w1d.heap.size from B0.size)
      have HGM := hide (show gm ≠ w1d.heap.size ∧ gw ≠ w1d.heap.size from ⟨Nat.ne_of_lt (Blk.lt M.1), Nat.ne_of_lt (Blk.lt M.2.1)⟩)
      replace M := M.below ((Below.refl w1d.heap.size w1d).alloc (Nat.le_refl _) (.cells #[.bool false, .slice none 0 0, .slice none 0 0, .int .u64 0] 82))
      replace B0 := B0.alloc B0.size (.cells #[.bool false, .slice none 0 0, .slice none 0 0, .int .u64 0] 82)
      generalize w1d.alloc (.cells #[.bool false, .slice none 0 0, .slice none 0 0, .int .u64 0] 82) = w2 at *
      generalize w1d.heap.size = gx at *
      refine hK.out _ _ (by exact mem5 M) (fun hHeld => ?_)
      clear hK K
      try simp only [Act.put, List.setIfInBounds_toArray, List.set_cons_zero, List.set_cons_succ]
      refine wpAnyZ_ready (rs := [2]) (by kernel_rfl) (by simp) ?_
      refine AllReadyZ.cons (opAt rfl) (fun K hK => ?_) ?_
      · skip
        go_simp
        refine (AN.out _ M).mono ?_
        rintro e w3 ⟨⟨v, rfl, hnd⟩, hb1⟩
        obtain ⟨kv, uv, rfl, o1, o2⟩ := hnd
        obtain ⟨A1, c1, rfl, _⟩ := own_reads o1
        obtain ⟨A2, c2, rfl, _⟩ := own_reads o2
        replace M := M.below hb1
        replace bn := bn.below hb1 bn.lt
        have o1 := own_mono o1 B0.size
        have o2 := own_mono o2 B0.size
        replace B0 := B0.trans (hb1.mono B0.size)
        clear hb1
        refine hK.out _ _ (by exact mem5 M) (fun hHeld => ?_)
        clear hK K
        try simp only [Act.put, List.setIfInBounds_toArray, List.set_cons_zero, List.set_cons_succ]
        refine wpAnyZ_ready (rs := [9]) (by kernel_rfl) (by simp) ?_
        refine AllReadyZ.cons (opAt rfl) (fun K hK => ?_) ?_
        · skip
          go_simp
          refine (CV.out _).mono ?_
          rintro e w4 ⟨rfl, hb1⟩
          replace M := M.below hb1
          replace bn := bn.below hb1 bn.lt
          replace o1 := own_below o1 hb1
          replace o2 := own_below o2 hb1
          replace B0 := B0.trans (hb1.mono B0.size)
          clear hb1
          refine hK.out _ _ (by exact mem5 M) (fun hHeld => ?_)
          clear hK K
          try simp only [Act.put, List.setIfInBounds_toArray, List.set_cons_zero, List.set_cons_succ]
          refine wpAnyZ_ready (rs := [10]) (by kernel_rfl) (by simp) ?_
          refine AllReadyZ.cons (opAt rfl) (fun K hK => ?_) ?_
          · skip
            go_simp
            refine (WD.out _ M).mono ?_
            rintro e w5 ⟨rfl, rfl⟩
            refine hK.out _ _ (by exact mem5 M) (fun hHeld => ?_)
            clear hK K
            try simp only [Act.put, List.setIfInBounds_toArray, List.set_cons_zero, List.set_cons_succ]
            refine wpAnyZ_ready (rs := [12]) (by kernel_rfl) (by simp) ?_
            refine AllReadyZ.cons (opAt rfl) (fun K hK => ?_) ?_
            · skip
              have zn := fun i => bn.frozen i
              have mn := fun i => bn.cell i
              go_simp
              clear zn mn
              replace M := M.grown (grown_set _ gx 0 (.bool false)) (fun e => by injection e with e; exact HGM.out.1 e) (fun e => by injection e with e; exact HGM.out.2 e)
              replace M := M.grown (grown_set _ gx 1 (.slice A1 ks.length c1)) (fun e => by injection e with e; exact HGM.out.1 e) (fun e => by injection e with e; exact HGM.out.2 e)
              replace M := M.grown (grown_set _ gx 2 (.slice A2 vs.length c2)) (fun e => by injection e with e; exact HGM.out.1 e) (fun e => by injection e with e; exact HGM.out.2 e)
              replace M := M.grown (grown_set _ gx 3 (.int .u64 lk)) (fun e => by injection e with e; exact HGM.out.1 e) (fun e => by injection e with e; exact HGM.out.2 e)
              have HO := hide (And.intro o1 o2)
              clear o1 o2
              have o1 := own_setT (own_setT (own_setT (own_setT (show w4.ownsRow _ _ _ _ _ _ from HO.out.1) bn (by decide) 0 (.bool false)) (bn.set_ 0 (.bool false)) (by decide) 1 (.slice A1 ks.length c1)) ((bn.set_ 0 (.bool false)).set_ 1 (.slice A1 ks.length c1)) (by decide) 2 (.slice A2 vs.length c2)) (((bn.set_ 0 (.bool false)).set_ 1 (.slice A1 ks.length c1)).set_ 2 (.slice A2 vs.length c2)) (by decide) 3 (.int .u64 lk)
              have o2 := own_setT (own_setT (own_setT (own_setT (show w4.ownsRow _ _ _ _ _ _ from HO.out.2) bn (by decide) 0 (.bool false)) (bn.set_ 0 (.bool false)) (by decide) 1 (.slice A1 ks.length c1)) ((bn.set_ 0 (.bool false)).set_ 1 (.slice A1 ks.length c1)) (by decide) 2 (.slice A2 vs.length c2)) (((bn.set_ 0 (.bool false)).set_ 1 (.slice A1 ks.length c1)).set_ 2 (.slice A2 vs.length c2)) (by decide) 3 (.int .u64 lk)
              clear HO
              replace B0 := below_setN (g := gx) B0 HGX.out (.bool false) (.slice A1 ks.length c1) (.slice A2 vs.length c2) (.int .u64 lk)
              replace bn := bn.setN (.bool false) (.slice A1 ks.length c1) (.slice A2 vs.length c2) (.int .u64 lk)
              generalize (((w4.setCell ⟨gx, 0, none⟩ (.bool false)).setCell ⟨gx, 1, none⟩ (.slice A1 ks.length c1)).setCell ⟨gx, 2, none⟩ (.slice A2 vs.length c2)).setCell ⟨gx, 3, none⟩ (.int .u64 lk) = wz at *
              refine hK.out _ _ (by exact mem5 M) (fun hHeld => ?_)
              clear hK K
              try simp only [Act.put, List.setIfInBounds_toArray, List.set_cons_zero, List.set_cons_succ]
              refine' wpAnyZ_takeA (i := 13) (v := ?_) (opAt rfl) (by kernel_rfl) (by kernel_rfl) (by kernel_rfl) (by kernel_rfl) (fun _ _ _ h => h) (by assumption) (by rfl) (fun w hSw => ?_) ?_
              rotate_left
              · (try dsimp only at hSw); go_simp; (try with_reducible rfl)
              try simp only [Act.put, List.setIfInBounds_toArray, List.set_cons_zero, List.set_cons_succ]
              refine wpAnyZ_done (by kernel_rfl) ?_ _
              go_wp2_with fail
              go_meet
              exact ⟨gx, _, _, rfl, rfl, bn, o1, o2, M, B0⟩
            exact AllReadyZ.nil
          exact AllReadyZ.nil
        exact AllReadyZ.nil
      exact AllReadyZ.nil
    exact AllReadyZ.nil
  case rest =>
    clear M B0
    obtain ⟨bn, kv, uv, rfl, rfl, bn0, o1, o2, M, B0⟩ := hcut
    go_wp2_with fail
    refine (HHC.out _ M).mono ?_
    rintro e w3 ⟨rfl, hb1⟩
    replace B0 := B0.trans (hb1.mono B0.size)
    replace o1 := own_below o1 hb1
    replace o2 := own_below o2 hb1
    replace bn0 := bn0.below hb1 bn0.lt
    clear hb1 M
    go_wp2_with fail
    refine (HT.out _).mono ?_
    rintro e w4 ⟨rfl, hb1⟩
    replace B0 := B0.trans (hb1.mono B0.size)
    replace o1 := own_below o1 hb1
    replace o2 := own_below o2 hb1
    replace bn0 := bn0.below hb1 bn0.lt
    clear hb1
    obtain ⟨A1, c1, rfl, R1⟩ := own_reads o1
    obtain ⟨A2, c2, rfl, R2⟩ := own_reads o2
    have HBN := hide bn0
    have HBL := hide bn0.lt
    have HR1 := hide R1
    have HR2 := hide R2
    have HB0 := hide B0
    clear bn0 o1 o2 R1 R2 B0
    have bs := Blk.new w4 9 #[.string (htx hv), .string ⟨#[108, 101, 97, 102]⟩]
    have Bq := (Below.refl w4.heap.size w4).alloc (Nat.le_refl _) (.cells #[.string (htx hv), .string ⟨#[108, 101, 97, 102]⟩] 9)
    generalize htx hv = th at *
    go_upto_if 38 with fail
    generalize hg4 : w4.heap.size = g4 at *
    have HG4 := hide hg4
    clear hg4
    go_cut [] from 38 to 40 (fun wx => Blk wx g4 9 #[.string s0, .string ⟨#[108, 101, 97, 102]⟩] ∧ Below g4 w4 wx)
    case first =>
      cases hq : (k == 0)
      case true =>
        have h0 : k = 0 := by simpa using hq
        clear hq
        have hs9 : s0 = anchorB := HS0.out.trans (if_pos h0)
        have HS9 := hide hs9
        clear h0 hs9
        generalize w4.alloc (.cells #[.string th, .string ⟨#[108, 101, 97, 102]⟩] 9) = wk at *
        have zb := fun i => bs.frozen i
        have mb := fun i => bs.cell i
        go_wp2_with fail
        go_meet
        exact ⟨by rw [HS9.out]; exact bs.set_ 0 (.string ⟨#[97, 110, 99, 104, 111, 114]⟩), Bq.setCell (p := ⟨g4, 0, none⟩) (Nat.le_refl _) _⟩
      case false =>
        have h0 : ¬ k = 0 := by simpa using hq
        clear hq
        have hs9 : s0 = th := HS0.out.trans (if_neg h0)
        have HS9 := hide hs9
        clear h0 hs9
        generalize w4.alloc (.cells #[.string th, .string ⟨#[108, 101, 97, 102]⟩] 9) = wk at *
        go_wp2_with fail
        go_meet
        exact ⟨by rw [HS9.out]; exact bs, Bq⟩
    case rest =>
      clear bs Bq
      obtain ⟨bs, Bq⟩ := hcut
      have bnx := HBN.out.below Bq HBL.out
      have mn := fun i => bnx.cell i
      have zb := fun i => bs.frozen i
      have mb := fun i => bs.cell i
      go_wp2_with fail
      refine (VL.out _).mono ?_
      rintro e w' ⟨rfl, rfl⟩
      clear mn bnx zb mb
      generalize wc = wm at *
      have ho : wm.ownsRow g4 9 1 (.slice (some ⟨g4, 0, none⟩) 2 2) 2 (strs [s0, leafB]) := own_of_blk bs (Nat.le_refl _) rfl (by omega)
      clear bs
      go_upto_if 46 with fail
      go_cut [7] from 46 to 49 (fun s7 wx => NdW g4 (wA s0 leafB lo) w4 s7 wx)
      case first =>
        cases lo
        · go_wp2_with fail
          go_meet
          exact ⟨_, 2, _, rfl, rfl, ho, Bq⟩
        · skip
          have hr6 := Reads.new wm (strs [⟨#[108, 111, 99, 107, 101, 100]⟩]) 9 1 1 rfl
          replace ho := World.ownsRow.alloc ho (.cells #[.string ⟨#[108, 111, 99, 107, 101, 100]⟩] 9)
          have hsz : g4 ≤ wm.heap.size := by have h1 := Bq.size; have h2 := HG4.out; omega
          replace Bq := Bq.alloc hsz (.cells #[.string ⟨#[108, 111, 99, 107, 101, 100]⟩] 9)
          have bnx := HBN.out.below Bq HBL.out
          have mn := fun i => bnx.cell i
          go_wp2_with (at_builtin; refine wpList_append_any _ rfl (.tmp 47) (.tmp 48) _ rfl g4 9 i0 _ 1 16 Tryz.underlying87 hi0 hz0 hs0 hb0 rfl (by omega) _ (2) _ rfl ho (wm.heap.size + 1) (some ⟨wm.heap.size, 0, none⟩) 1 1 (strs [⟨#[108, 111, 99, 107, 101, 100]⟩]) rfl hr6 (strs_one _) (by unfold maxLen; omega) (by omega) (by simp only [World.size_alloc]; omega) ?_; intro v3 w7 ho3 hg3 hat3; replace Bq := below_appended Bq ho hg3 (Nat.le_refl _) (by simp only [World.size_alloc]; omega); obtain ⟨A3, c3, rfl, _⟩ := own_reads ho3; rw [← strs_app] at ho3; clear ho hg3 hat3 hr6 hsz mn bnx; have ho := ho3; clear ho3; have bnx := HBN.out.below Bq HBL.out; have mn := fun i => bnx.cell i)
          go_meet
          exact ⟨_, 2 + 1, _, rfl, rfl, ho, Bq⟩
      case rest =>
        clear ho Bq
        obtain ⟨A, n, c, rfl, hn, ho, Bq⟩ := hcut
        go_wp2_with fail
        refine (VD.out _).mono ?_
        rintro e w' ⟨rfl, rfl⟩
        have hn3 : n ≤ 3 := by rw [← hn]; cases lo <;> simp [wA]
        have HNE := hide hn
        clear hn
        go_upto_if 51 with fail
        go_cut [7] from 51 to 54 (fun s7 wx => NdW g4 (wB s0 leafB lo de) w4 s7 wx)
        case first =>
          cases de
          · go_wp2_with fail
            go_meet
            exact ⟨_, n, _, rfl, by rw [← HNE.out]; simp [wB], by rw [show wB s0 leafB lo false = wA s0 leafB lo by simp [wB]]; exact ho, Bq⟩
          · skip
            have hr6 := Reads.new wc (strs [⟨#[100, 101, 97, 100]⟩]) 9 1 1 rfl
            replace ho := World.ownsRow.alloc ho (.cells #[.string ⟨#[100, 101, 97, 100]⟩] 9)
            have hsz : g4 ≤ wc.heap.size := by have h1 := Bq.size; have h2 := HG4.out; omega
            replace Bq := Bq.alloc hsz (.cells #[.string ⟨#[100, 101, 97, 100]⟩] 9)
            have bnx := HBN.out.below Bq HBL.out
            have mn := fun i => bnx.cell i
            go_wp2_with (at_builtin; refine wpList_append_any _ rfl (.tmp 52) (.tmp 53) _ rfl g4 9 i0 _ 1 16 Tryz.underlying87 hi0 hz0 hs0 hb0 rfl (by omega) _ (n) _ rfl ho (wc.heap.size + 1) (some ⟨wc.heap.size, 0, none⟩) 1 1 (strs [⟨#[100, 101, 97, 100]⟩]) rfl hr6 (strs_one _) (by unfold maxLen; omega) (by omega) (by simp only [World.size_alloc]; omega) ?_; intro v3 w7 ho3 hg3 hat3; replace Bq := below_appended Bq ho hg3 (Nat.le_refl _) (by simp only [World.size_alloc]; omega); obtain ⟨A3, c3, rfl, _⟩ := own_reads ho3; rw [← strs_app] at ho3; clear ho hg3 hat3 hr6 hsz mn bnx; have ho := ho3; clear ho3; have bnx := HBN.out.below Bq HBL.out; have mn := fun i => bnx.cell i)
            go_meet
            exact ⟨_, n + 1, _, rfl, by rw [← HNE.out]; simp [wB], ho, Bq⟩
        case rest =>
          clear ho Bq HNE
          obtain ⟨A, n, c, rfl, hn, ho, Bq⟩ := hcut
          have HNL := hide (show n ≤ 4 by have := wB_len s0 leafB lo de; omega)
          have HNP := hide (show 0 < n by have := List.length_pos_iff.2 (wB_ne s0 leafB lo de); omega)
          clear hn
          have HEL := hide (show nodeL s0 leafB lo de false ks vs lk = wC (wB s0 leafB lo de) false ks vs vs.length ++ (if false = false ∧ lk ≠ 0 then [nextB, htx lk] else []) from rfl)
          rw [HEL.out] at E
          generalize wB s0 leafB lo de = W0 at *
          clear HEL
          have bnx := HBN.out.below Bq HBL.out
          have mn := fun i => bnx.cell i
          go_wp2_with fail
          clear mn bnx
          obtain ⟨N, hN⟩ : ∃ N, vs.length = N := ⟨_, rfl⟩
          rw [hN]
          have HN := hide hN
          clear hN
          go_loopw [7, 58] (NdLp g4 N W0 false ks vs w4) (fun _ v _ => N - (intOf v).toNat)
          case atStart => exact ⟨0, n, A, c, rfl, by omega, rfl, HNP.out, HNL.out, by rw [wC_zero]; exact ho, Bq⟩
          case round =>
            clear ho Bq
            obtain ⟨j, n1, A3, c3, rfl, hj, rfl, hn1, hn2, ho, Bq⟩ := hrel
            have HN64 := HVN.out
            rw [HN.out] at HN64
            have bnx := HBN.out.below Bq HBL.out
            have mn := fun i => bnx.cell i
            by_cases hlt : j < N
            · have hltz : (j : Int) < (N : Int) := by omega
              have HVB := (HR2.out.below Bq)
              rw [HN.out] at HVB
              obtain ⟨a2, hA2, hl2, z2⟩ := HVB.word hlt
              subst hA2
              have HW2 := HV64.out _ (List.getElem_mem hl2)
              have hg2 : vs.getD j 0 = vs[j] := by simp [List.getD, hl2]
              generalize vs[j] = vj at *
              clear HVB hl2
              have HKB := (HR1.out.below Bq)
              rw [HKN.out, HN.out] at HKB
              obtain ⟨a1, hA1, hl1, z1⟩ := HKB.word hlt
              subst hA1
              have HW1 := HK64.out _ (List.getElem_mem hl1)
              have hg1 : ks.getD j 0 = ks[j] := by simp [List.getD, hl1]
              generalize ks[j] = kj at *
              clear HKB hl1
              have DE := hide (fun w2 => dentry_any kj vj w2 HW1 HW2)
              have HEW := hide (show wC W0 false ks vs (j + 1) = wC W0 false ks vs j ++ [entT kj vj] by rw [wC_succ]; unfold entW; rw [hg1, hg2]; rfl)
              clear hg1 hg2 HW1 HW2
              generalize entT kj vj = en at *
              have hjk : j < ks.length := by have h1 := HKN.out; have h2 := HN.out; omega
              have hjk2 : (j : Int) < (ks.length : Int) := by omega
              go_wp2_with fail
              refine (DE.out _).mono ?_
              rintro e w7 ⟨rfl, hb1⟩
              replace ho := own_below ho hb1
              replace Bq := Bq.trans (hb1.mono (by have h1 := Bq.size; have h2 := HG4.out; omega))
              clear hb1 mn bnx z1 z2
              have hr6 := Reads.new w7 (strs [en]) 9 1 1 rfl
              replace ho := World.ownsRow.alloc ho (.cells #[.string en] 9)
              have hsz : g4 ≤ w7.heap.size := by have h1 := Bq.size; have h2 := HG4.out; omega
              replace Bq := Bq.alloc hsz (.cells #[.string en] 9)
              have bnx := HBN.out.below Bq HBL.out
              have mn := fun i => bnx.cell i
              go_wp2_with (at_builtin; refine wpList_append_any _ rfl (.tmp 72) (.tmp 80) _ rfl g4 9 i0 _ 1 16 Tryz.underlying87 hi0 hz0 hs0 hb0 rfl (by omega) _ (n1) _ rfl ho (w7.heap.size + 1) (some ⟨w7.heap.size, 0, none⟩) 1 1 (strs [en]) rfl hr6 (strs_one _) (by unfold maxLen; omega) (by omega) (by simp only [World.size_alloc]; omega) ?_; intro v3 w8 ho3 hg3 hat3; replace Bq := below_appended Bq ho hg3 (Nat.le_refl _) (by simp only [World.size_alloc]; omega); obtain ⟨A3, c3, rfl, _⟩ := own_reads ho3; rw [← strs_app] at ho3; clear ho hg3 hat3 hr6 hsz mn bnx; have ho := ho3; clear ho3; have bnx := HBN.out.below Bq HBL.out; have mn := fun i => bnx.cell i)
              go_roundw
              case rel => exact ⟨j + 1, n1 + 1, A3, c3, by go_num, by omega, rfl, by omega, by omega, by rw [HEW.out]; exact ho, Bq⟩
              case measure => simp [intOf]; omega
            · obtain rfl : j = N := by omega
              by_cases hl0 : lk = 0
              · subst hl0
                have hE : R = joinT (wC W0 false ks vs j) := by rw [E.out, HN.out]; simp
                rw [hE] at HSZ
                have HE := hide hE
                have TX := hide (fun A9 c9 w2 (h : w2.ownsRow g4 9 1 (.slice A9 (n1) c9) (n1) (strs (wC W0 false ks vs j))) => dtext_any g4 (n1) c9 A9 _ w2 h (by omega) (by have := HSZ.out; omega) (by omega))
                clear hE E
                generalize joinT (wC W0 false ks vs j) = Q at *
                have TX2 := hide (TX.out _ _ _ ho)
                clear TX ho
                go_wp2_with fail
                refine (TX2.out).mono ?_
                rintro e w9 ⟨rfl, hb1⟩
                go_wp2_with fail
                go_ret
                exact ⟨by rw [HE.out]; rfl, HB0.out.trans ((Bq.trans (hb1.mono (by have h1 := Bq.size; have h2 := HG4.out; omega))).mono (by rw [← HG4.out]; exact HB0.out.size))⟩
              · have hE : R = joinT (wC W0 false ks vs j ++ [nextB, htx lk]) := by rw [E.out, HN.out, if_pos (by simp [hl0])]
                have HTL := hide (fun w2 => htext_any lk w2 HLK.out)
                have q0 : (lk == 0) = false := by simp [hl0]
                rw [hE] at HSZ
                have HE := hide hE
                have TX := hide (fun A9 c9 w2 (h : w2.ownsRow g4 9 1 (.slice A9 (n1 + 2) c9) (n1 + 2) (strs (wC W0 false ks vs j ++ [nextB, htx lk]))) => dtext_any g4 (n1 + 2) c9 A9 _ w2 h (by omega) (by have := HSZ.out; omega) (by omega))
                clear hE E
                generalize joinT (wC W0 false ks vs j ++ [nextB, htx lk]) = Q at *
                clear hl0
                generalize htx lk = tl at *
                go_wp2_with fail
                refine (HTL.out _).mono ?_
                rintro e w7 ⟨rfl, hb1⟩
                replace ho := own_below ho hb1
                replace Bq := Bq.trans (hb1.mono (by have h1 := Bq.size; have h2 := HG4.out; omega))
                clear hb1 mn bnx
                have hr6 := Reads.new w7 (strs [⟨#[110, 101, 120, 116]⟩, tl]) 9 2 1 rfl
                replace ho := World.ownsRow.alloc ho (.cells #[.string ⟨#[110, 101, 120, 116]⟩, .string tl] 9)
                have hsz : g4 ≤ w7.heap.size := by have h1 := Bq.size; have h2 := HG4.out; omega
                replace Bq := Bq.alloc hsz (.cells #[.string ⟨#[110, 101, 120, 116]⟩, .string tl] 9)
                have bnx := HBN.out.below Bq HBL.out
                have mn := fun i => bnx.cell i
                go_wp2_with (at_builtin; refine wpList_append_any _ rfl (.tmp 106) (.tmp 110) _ rfl g4 9 i0 _ 1 16 Tryz.underlying87 hi0 hz0 hs0 hb0 rfl (by omega) _ (n1) _ rfl ho (w7.heap.size + 1) (some ⟨w7.heap.size, 0, none⟩) 2 2 (strs [⟨#[110, 101, 120, 116]⟩, tl]) rfl hr6 (strs_one _) (by unfold maxLen; omega) (by omega) (by simp only [World.size_alloc]; omega) ?_; intro v3 w8 ho3 hg3 hat3; replace Bq := below_appended Bq ho hg3 (Nat.le_refl _) (by simp only [World.size_alloc]; omega); obtain ⟨A3, c3, rfl, _⟩ := own_reads ho3; rw [← strs_app] at ho3; clear ho hg3 hat3 hr6 hsz mn bnx; have ho := ho3; clear ho3; have bnx := HBN.out.below Bq HBL.out; have mn := fun i => bnx.cell i)
                refine (TX.out _ _ _ ho).mono ?_
                rintro e w9 ⟨rfl, hb1⟩
                go_wp2_with fail
                go_ret
                exact ⟨by rw [HE.out]; rfl, HB0.out.trans ((Bq.trans (hb1.mono (by have h1 := Bq.size; have h2 := HG4.out; omega))).mono (by rw [← HG4.out]; exact HB0.out.size))⟩
end Go.Proofs.YtlnckjemfabckaaGreatDoor

/-
  dump.Step: a step's words.
-/
namespace Go.Proofs.YtlnckjemfabckaaGreatDoor
open Go.RowKit

theorem MarkR.cells_len (m : MarkR) : (MarkR.cells m).length = 3 := rfl
def MarkOk (m : MarkR) : Prop := I64 m.1 ∧ m.2.1 < 18446744073709551616 ∧ m.2.2 < 18446744073709551616
theorem marks_succ {ms : List MarkR} {j : Nat} {m : MarkR} (h : ms[j]? = some m) : (ms.take (j + 1)).map MarkR.text = (ms.take j).map MarkR.text ++ [MarkR.text m] := by
  rw [List.take_add_one, h]
  simp
def StI (g N n0 : Nat) (cells : Array Value) (W0 : List ByteArray) (ms : List MarkR) (w : World) (v3 v55 : Value) (wr : World) : Prop :=
  ∃ (j : Nat) (A : Option Addr) (c : Nat), v55 = .int .i64 j ∧ j ≤ N ∧ v3 = .slice A (n0 + j) c ∧ wr.ownsRow (g + 1) 9 1 (.slice A (n0 + j) c) (n0 + j) (strs (W0 ++ (ms.take j).map MarkR.text)) ∧ Blk wr g 60 cells ∧ Below g w wr
theorem accS_ascii : ∀ (j : Nat) b, accS.data.toList[j]? = some b → b.toNat < 128 := by
  intro j b h
  have : ∀ b ∈ accS.data.toList, b.toNat < 128 := by decide
  exact this b (List.mem_of_getElem? h)
set_option maxRecDepth 100000 in
set_option maxHeartbeats 4000000 in
theorem step_3 (th at_ : Int) (o n g' : Nat) (ms : List MarkR) (A0 : Option Addr) (N cm : Nat) (w : World) (hT : Tab w) (ht : I64 th) (ha : I64 at_) (q1 : o < 18446744073709551616) (q2 : n < 18446744073709551616) (q3 : g' < 18446744073709551616)
    (hms : ∀ m ∈ ms, MarkOk m) (hN : ms.length = N) (hl : N ≤ 20) (hr : Reads w w.heap.size 3 A0 N (ms.flatMap MarkR.cells)) :
    Calls Tryz.prog 21 #[.agg #[.int .i64 th, .int .i64 3, .int .i64 at_, .int .u64 o, .int .u64 n, .int .u64 g', .slice A0 N cm]] w fun e w' => e = .returned (.string (stepT th 3 at_ o n g' ms)) ∧ Below w.heap.size w w' := by
  obtain ⟨i0, hi0, hz0, hs0, hb0⟩ := info_parts infoStr
  have B0 := (Below.refl w.heap.size w).alloc (Nat.le_refl _) (.cells #[.int .i64 th, .int .i64 3, .int .i64 at_, .int .u64 o, .int .u64 n, .int .u64 g', .slice A0 N cm] 60)
  have bx := Blk.new w 60 #[.int .i64 th, .int .i64 3, .int .i64 at_, .int .u64 o, .int .u64 n, .int .u64 g', .slice A0 N cm]
  have IT := hide (fun w2 => int_any th w2 ht)
  have IA := hide (fun w2 => int_any at_ w2 ha)
  have TO := hide (fun w2 => text_any o w2 q1)
  have TN := hide (fun w2 => text_any n w2 q2)
  have TG := hide (fun w2 => text_any g' w2 q3)
  have NM := hide (fun w2 (h : Below w.heap.size w w2) => named_any accS accL 3 w2 (hT.below h) ⟨by omega, by omega⟩ (by decide) accS_ascii acc_fields (by decide))
  rw [show accS = ⟨#[108, 111, 97, 100, 32, 115, 116, 111, 114, 101, 32, 99, 97, 115]⟩ from rfl] at NM
  have MK := hide (fun (m : MarkR) (hm : m ∈ ms) w2 (h : Below w.heap.size w w2) => mark_any m.1 m.2.1 m.2.2 w2 (hT.below h) (hms m hm).1 (hms m hm).2.1 (hms m hm).2.2)
  have HSZ := hide (stepT_size th 3 at_ o n g' ms (by omega))
  have E := hide (show stepT th 3 at_ o n g' ms = joinT ([intT th, nmd accL 3, intT at_, numT o, numT n, eq1, numT g'] ++ ms.map MarkR.text) by simp [stepT, stepW])
  rw [show strOfNums (intL th) = intT th from rfl] at IT
  rw [show strOfNums (intL at_) = intT at_ from rfl] at IA
  rw [show strOfNums (form 10 o) = numT o from rfl] at TO
  rw [show strOfNums (form 10 n) = numT n from rfl] at TN
  rw [show strOfNums (form 10 g') = numT g' from rfl] at TG
  generalize stepT th 3 at_ o n g' ms = R at *
  generalize nmd accL 3 = nm at *
  generalize intT th = ith at *
  generalize intT at_ = iat at *
  generalize numT o = to_ at *
  generalize numT n = tn at *
  generalize numT g' = tg at *
  have HR := hide hr
  have HN := hide hN
  clear hT ht ha q1 q2 q3 hr hN hms
  go_enter Tryz.func21, Tryz.ntmps21
  go_wp2_with fail
  generalize hgw : w.heap.size = g at *
  have HGW := hide hgw
  clear hgw
  generalize w.alloc (.cells #[.int .i64 th, .int .i64 3, .int .i64 at_, .int .u64 o, .int .u64 n, .int .u64 g', .slice A0 N cm] 60) = w0 at *
  refine wp_region_heldZ [] (fun w' => w'.cell? ⟨g, 0, none⟩ = some (.int .i64 th) ∧ w'.cell? ⟨g, 1, none⟩ = some (.int .i64 3) ∧ w'.cell? ⟨g, 2, none⟩ = some (.int .i64 at_)) (by kernel_rfl) (by exact ⟨bx.cell 0, bx.cell 1, bx.cell 2⟩) (fun hHeld => ?_)
  replace bx := bx.drew
  replace B0 := B0.drew
  generalize w0.drew = wd at *
  refine' wpAnyZ_takeA (i := 0) (v := ?_) (opAt rfl) (by kernel_rfl) (by kernel_rfl) (by kernel_rfl) (by kernel_rfl) (fun _ _ _ h => h) (by assumption) (by rfl) (fun w hSw => ?_) ?_
  rotate_left
  · (try dsimp only at hSw); go_simp; (try with_reducible rfl)
  try simp only [Act.put, List.setIfInBounds_toArray, List.set_cons_zero, List.set_cons_succ]
  refine' wpAnyZ_takeA (i := 1) (v := ?_) (opAt rfl) (by kernel_rfl) (by kernel_rfl) (by kernel_rfl) (by kernel_rfl) (fun _ _ _ h => h) (by assumption) (by rfl) (fun w hSw => ?_) ?_
  rotate_left
  · (try dsimp only at hSw); go_simp; (try with_reducible rfl)
  try simp only [Act.put, List.setIfInBounds_toArray, List.set_cons_zero, List.set_cons_succ]
  refine' wpAnyZ_takeA (i := 3) (v := ?_) (opAt rfl) (by kernel_rfl) (by kernel_rfl) (by kernel_rfl) (by kernel_rfl) (fun _ _ _ h => h) (by assumption) (by rfl) (fun w hSw => ?_) ?_
  rotate_left
  · (try dsimp only at hSw); go_simp; (try with_reducible rfl)
  try simp only [Act.put, List.setIfInBounds_toArray, List.set_cons_zero, List.set_cons_succ]
  refine' wpAnyZ_takeA (i := 4) (v := ?_) (opAt rfl) (by kernel_rfl) (by kernel_rfl) (by kernel_rfl) (by kernel_rfl) (fun _ _ _ h => h) (by assumption) (by rfl) (fun w hSw => ?_) ?_
  rotate_left
  · (try dsimp only at hSw); go_simp; (try with_reducible rfl)
  try simp only [Act.put, List.setIfInBounds_toArray, List.set_cons_zero, List.set_cons_succ]
  refine' wpAnyZ_takeA (i := 5) (v := ?_) (opAt rfl) (by kernel_rfl) (by kernel_rfl) (by kernel_rfl) (by kernel_rfl) (fun _ _ _ h => h) (by assumption) (by rfl) (fun w hSw => ?_) ?_
  rotate_left
  · (try dsimp only at hSw); go_simp; (try with_reducible rfl)
  try simp only [Act.put, List.setIfInBounds_toArray, List.set_cons_zero, List.set_cons_succ]
  refine' wpAnyZ_takeA (i := 7) (v := ?_) (opAt rfl) (by kernel_rfl) (by kernel_rfl) (by kernel_rfl) (by kernel_rfl) (fun _ _ _ h => h) (by assumption) (by rfl) (fun w hSw => ?_) ?_
  rotate_left
  · (try dsimp only at hSw); go_simp; (try with_reducible rfl)
  try simp only [Act.put, List.setIfInBounds_toArray, List.set_cons_zero, List.set_cons_succ]
  refine' wpAnyZ_takeA (i := 8) (v := ?_) (opAt rfl) (by kernel_rfl) (by kernel_rfl) (by kernel_rfl) (by kernel_rfl) (fun _ _ _ h => h) (by assumption) (by rfl) (fun w hSw => ?_) ?_
  rotate_left
  · (try dsimp only at hSw); go_simp; (try with_reducible rfl)
  try simp only [Act.put, List.setIfInBounds_toArray, List.set_cons_zero, List.set_cons_succ]
  refine' wpAnyZ_takeA (i := 9) (v := ?_) (opAt rfl) (by kernel_rfl) (by kernel_rfl) (by kernel_rfl) (by kernel_rfl) (fun _ _ _ h => h) (by assumption) (by rfl) (fun w hSw => ?_) ?_
  rotate_left
  · (try dsimp only at hSw); go_simp; (try with_reducible rfl)
  try simp only [Act.put, List.setIfInBounds_toArray, List.set_cons_zero, List.set_cons_succ]
  refine wpAnyZ_ready (rs := [2]) (by kernel_rfl) (by simp) ?_
  refine AllReadyZ.cons (opAt rfl) (fun K hK => ?_) ?_
  · skip
    go_simp
    refine (IT.out _).mono ?_
    rintro e w1 ⟨rfl, hb1⟩
    replace B0 := B0.trans (hb1.mono (Nat.le_of_lt bx.lt))
    replace bx := bx.below hb1 bx.lt
    clear hb1
    try go_wp2_with fail
    refine hK.out _ _ (by exact ⟨bx.cell 0, bx.cell 1, bx.cell 2⟩) (fun hHeld => ?_)
    clear hK K
    try simp only [Act.put, List.setIfInBounds_toArray, List.set_cons_zero, List.set_cons_succ]
    refine wpAnyZ_ready (rs := [6]) (by kernel_rfl) (by simp) ?_
    refine AllReadyZ.cons (opAt rfl) (fun K hK => ?_) ?_
    · skip
      go_simp
      refine (NM.out _ B0).mono ?_
      rintro e w2 ⟨rfl, hb1⟩
      replace B0 := B0.trans (hb1.mono (Nat.le_of_lt bx.lt))
      replace bx := bx.below hb1 bx.lt
      clear hb1
      try go_wp2_with fail
      refine hK.out _ _ (by exact ⟨bx.cell 0, bx.cell 1, bx.cell 2⟩) (fun hHeld => ?_)
      clear hK K
      try simp only [Act.put, List.setIfInBounds_toArray, List.set_cons_zero, List.set_cons_succ]
      refine wpAnyZ_ready (rs := [10]) (by kernel_rfl) (by simp) ?_
      refine AllReadyZ.cons (opAt rfl) (fun K hK => ?_) ?_
      · skip
        go_simp
        refine (IA.out _).mono ?_
        rintro e w3 ⟨rfl, hb1⟩
        replace B0 := B0.trans (hb1.mono (Nat.le_of_lt bx.lt))
        replace bx := bx.below hb1 bx.lt
        clear hb1
        try go_wp2_with fail
        refine hK.out _ _ (by exact ⟨bx.cell 0, bx.cell 1, bx.cell 2⟩) (fun hHeld => ?_)
        clear hK K
        try simp only [Act.put, List.setIfInBounds_toArray, List.set_cons_zero, List.set_cons_succ]
        refine wpAnyZ_ready (rs := [11]) (by kernel_rfl) (by simp) ?_
        refine AllReadyZ.cons (opAt rfl) (fun K hK => ?_) ?_
        · skip
          go_simp
          have hsz : g + 1 ≤ w3.heap.size := bx.lt
          have ho := own_lit w3 9 #[.string ith, .string nm, .string iat] 3 (g + 1) hsz rfl (by omega)
          replace bx := bx.alloc (.cells #[.string ith, .string nm, .string iat] 9)
          replace B0 := B0.alloc (by omega) (.cells #[.string ith, .string nm, .string iat] 9)
          clear hsz
          refine hK.out _ _ (by exact ⟨bx.cell 0, bx.cell 1, bx.cell 2⟩) (fun hHeld => ?_)
          clear hK K
          try simp only [Act.put, List.setIfInBounds_toArray, List.set_cons_zero, List.set_cons_succ]
          refine' wpAnyZ_takeA (i := 12) (v := ?_) (opAt rfl) (by kernel_rfl) (by kernel_rfl) (by kernel_rfl) (by kernel_rfl) (fun _ _ _ h => h) (by assumption) (by rfl) (fun w hSw => ?_) ?_
          rotate_left
          · (try dsimp only at hSw); go_simp; (try with_reducible rfl)
          try simp only [Act.put, List.setIfInBounds_toArray, List.set_cons_zero, List.set_cons_succ]
          refine wpAnyZ_done (by kernel_rfl) ?_ _
          generalize (w3.alloc (.cells #[.string ith, .string nm, .string iat] 9)) = w4 at *
          have mc := fun j => bx.cell j
          have hlt0 := bx.lt
          replace ho : w4.ownsRow (g + 1) 9 1 _ 3 (strs [ith, nm, iat]) := ho
          go_wp2_with fail
          refine (TO.out _).mono ?_
          rintro e w5 ⟨rfl, hb1⟩
          replace B0 := B0.trans (hb1.mono (Nat.le_of_lt bx.lt))
          replace bx := bx.below hb1 bx.lt
          replace ho := own_below ho hb1
          clear hb1
          clear mc hlt0
          have mc := fun j => bx.cell j
          have hlt0 := bx.lt
          have hr6 := Reads.new w5 (strs [to_]) 9 1 1 rfl
          replace bx := bx.alloc (.cells #[.string to_] 9)
          replace ho := ho.alloc (.cells #[.string to_] 9)
          have hsz : g + 1 ≤ w5.heap.size := by have := hlt0; omega
          replace B0 := B0.alloc (show g ≤ w5.heap.size by omega) (.cells #[.string to_] 9)
          clear mc
          have mc := fun j => bx.cell j
          go_wp2_with (at_builtin; refine wpList_append_any _ rfl (.tmp 22) (.tmp 27) _ rfl (g + 1) 9 i0 _ 1 16 Tryz.underlying87 hi0 hz0 hs0 hb0 rfl (by omega) _ (3) _ rfl ho (w5.heap.size + 1) (some ⟨w5.heap.size, 0, none⟩) 1 1 (strs [to_]) rfl hr6 (strs_one _) (by unfold maxLen; omega) (by omega) (by simp only [World.size_alloc]; omega) ?_; intro v3 w6 ho3 hg3 hat3; replace bx := blk_appended bx ho hg3 (by omega); replace B0 := below_appended B0 ho hg3 (by omega) (by simp only [World.size_alloc]; omega); obtain ⟨A3, c3, rfl, _⟩ := own_reads ho3; rw [← strs_app] at ho3; clear ho hg3 hat3 hr6 hsz mc; have ho := ho3; clear ho3; have mc := fun j => bx.cell j; have hlt0 := bx.lt)
          refine (TN.out _).mono ?_
          rintro e w7 ⟨rfl, hb1⟩
          replace B0 := B0.trans (hb1.mono (Nat.le_of_lt bx.lt))
          replace bx := bx.below hb1 bx.lt
          replace ho := own_below ho hb1
          clear hb1
          clear mc hlt0
          have mc := fun j => bx.cell j
          have hlt0 := bx.lt
          have hr6 := Reads.new w7 (strs [tn]) 9 1 1 rfl
          replace bx := bx.alloc (.cells #[.string tn] 9)
          replace ho := ho.alloc (.cells #[.string tn] 9)
          have hsz : g + 1 ≤ w7.heap.size := by have := hlt0; omega
          replace B0 := B0.alloc (show g ≤ w7.heap.size by omega) (.cells #[.string tn] 9)
          clear mc
          have mc := fun j => bx.cell j
          go_wp2_with (at_builtin; refine wpList_append_any _ rfl (.tmp 39) (.tmp 44) _ rfl (g + 1) 9 i0 _ 1 16 Tryz.underlying87 hi0 hz0 hs0 hb0 rfl (by omega) _ (3 + 1) _ rfl ho (w7.heap.size + 1) (some ⟨w7.heap.size, 0, none⟩) 1 1 (strs [tn]) rfl hr6 (strs_one _) (by unfold maxLen; omega) (by omega) (by simp only [World.size_alloc]; omega) ?_; intro v3 w8 ho3 hg3 hat3; replace bx := blk_appended bx ho hg3 (by omega); replace B0 := below_appended B0 ho hg3 (by omega) (by simp only [World.size_alloc]; omega); obtain ⟨A3, c3, rfl, _⟩ := own_reads ho3; rw [← strs_app] at ho3; clear ho hg3 hat3 hr6 hsz mc; have ho := ho3; clear ho3; have mc := fun j => bx.cell j; have hlt0 := bx.lt)
          refine (TG.out _).mono ?_
          rintro e w9 ⟨rfl, hb1⟩
          replace B0 := B0.trans (hb1.mono (Nat.le_of_lt bx.lt))
          replace bx := bx.below hb1 bx.lt
          replace ho := own_below ho hb1
          clear hb1
          clear mc hlt0
          have mc := fun j => bx.cell j
          have hlt0 := bx.lt
          have hr6 := Reads.new w9 (strs [⟨#[61]⟩, tg]) 9 2 1 rfl
          replace bx := bx.alloc (.cells #[.string ⟨#[61]⟩, .string tg] 9)
          replace ho := ho.alloc (.cells #[.string ⟨#[61]⟩, .string tg] 9)
          have hsz : g + 1 ≤ w9.heap.size := by have := hlt0; omega
          replace B0 := B0.alloc (show g ≤ w9.heap.size by omega) (.cells #[.string ⟨#[61]⟩, .string tg] 9)
          clear mc
          have mc := fun j => bx.cell j
          go_wp2_with (at_builtin; refine wpList_append_any _ rfl (.tmp 46) (.tmp 50) _ rfl (g + 1) 9 i0 _ 1 16 Tryz.underlying87 hi0 hz0 hs0 hb0 rfl (by omega) _ (3 + 1 + 1) _ rfl ho (w9.heap.size + 1) (some ⟨w9.heap.size, 0, none⟩) 2 2 (strs [⟨#[61]⟩, tg]) rfl hr6 (strs_one _) (by unfold maxLen; omega) (by omega) (by simp only [World.size_alloc]; omega) ?_; intro v3 w10 ho3 hg3 hat3; replace bx := blk_appended bx ho hg3 (by omega); replace B0 := below_appended B0 ho hg3 (by omega) (by simp only [World.size_alloc]; omega); obtain ⟨A3, c3, rfl, _⟩ := own_reads ho3; rw [← strs_app] at ho3; clear ho hg3 hat3 hr6 hsz mc; have ho := ho3; clear ho3; have mc := fun j => bx.cell j; have hlt0 := bx.lt)
          replace ho : w10.ownsRow (g + 1) 9 1 (.slice A3 (7 + 0) c3) (7 + 0) (strs ([ith, nm, iat, to_, tn, eq1, tg] ++ (ms.take 0).map MarkR.text)) := ho
          generalize hW0 : [ith, nm, iat, to_, tn, eq1, tg] = W0 at *
          clear hW0 mc
          go_loopw [3, 55] (StI g N 7 #[.int .i64 th, .int .i64 3, .int .i64 at_, .int .u64 o, .int .u64 n, .int .u64 g', .slice A0 N cm] W0 ms w) (fun _ v _ => N - (intOf v).toNat)
          case atStart => exact ⟨0, A3, c3, rfl, by omega, rfl, ho, bx, B0⟩
          case round =>
            clear ho bx B0 hlt0
            obtain ⟨j, A, c, rfl, hj, rfl, ho, bx, B0⟩ := hrel
            have hlt0 := bx.lt
            by_cases hlt : j < N
            · have HRB := (HR.out.below B0)
              obtain ⟨ad, m, hA, hab, hmj, z0, zz⟩ := HRB.recAt MarkR.cells_len (by omega) hlt
              have z1 := zz 1 (by omega) (by omega)
              have z2 := zz 2 (by omega) (by omega)
              clear zz HRB
              subst hA
              have HMM := hide (marks_succ hmj)
              have MKJ := hide (fun w2 h => MK.out m (List.mem_of_getElem? hmj) w2 h)
              obtain ⟨mk, ma, mb⟩ := m
              replace z0 : wr.cell? (ad.add (j * 3)) = some (.int .i64 mk) := z0
              replace z1 : wr.cell? ⟨(ad.add (j * 3)).block, (ad.add (j * 3)).off + 1, none⟩ = some (.int .u64 ma) := z1
              replace z2 : wr.cell? ⟨(ad.add (j * 3)).block, (ad.add (j * 3)).off + 2, none⟩ = some (.int .u64 mb) := z2
              have MKJ2 := hide (show ∀ w2, Below g w w2 → Calls Tryz.prog 66 #[.agg #[.int .i64 mk, .int .u64 ma, .int .u64 mb]] w2 fun e w' => e = .returned (.string (MarkR.text (mk, ma, mb))) ∧ Below w2.heap.size w2 w' from MKJ.out)
              clear MKJ hmj hab
              generalize MarkR.text (mk, ma, mb) = tm at *
              have hltz : (j : Int) < (N : Int) := by omega
              have mb0 := Blk.new wr 57 #[.int .i64 mk, .int .u64 ma, .int .u64 mb]
              replace bx := bx.alloc (.cells #[.int .i64 mk, .int .u64 ma, .int .u64 mb] 57)
              replace ho := ho.alloc (.cells #[.int .i64 mk, .int .u64 ma, .int .u64 mb] 57)
              replace B0 := B0.alloc (show g ≤ wr.heap.size by omega) (.cells #[.int .i64 mk, .int .u64 ma, .int .u64 mb] 57)
              have mm := fun j => mb0.cell j
              go_wp2_with fail
              refine (MKJ2.out _ B0).mono ?_
              rintro e w7 ⟨rfl, hb1⟩
              replace B0 := B0.trans (hb1.mono (Nat.le_of_lt bx.lt))
              replace bx := bx.below hb1 bx.lt
              replace ho := own_below ho hb1
              clear hb1
              clear hlt0 mm mb0 z0 z1 z2
              have mc := fun j => bx.cell j
              have hlt0 := bx.lt
              have hr6 := Reads.new w7 (strs [tm]) 9 1 1 rfl
              replace bx := bx.alloc (.cells #[.string tm] 9)
              replace ho := ho.alloc (.cells #[.string tm] 9)
              have hsz : g + 1 ≤ w7.heap.size := by have := hlt0; omega
              replace B0 := B0.alloc (show g ≤ w7.heap.size by omega) (.cells #[.string tm] 9)
              clear mc
              have mc := fun j => bx.cell j
              go_wp2_with (at_builtin; refine wpList_append_any _ rfl (.tmp 59) (.tmp 62) _ rfl (g + 1) 9 i0 _ 1 16 Tryz.underlying87 hi0 hz0 hs0 hb0 rfl (by omega) _ (7 + j) _ rfl ho (w7.heap.size + 1) (some ⟨w7.heap.size, 0, none⟩) 1 1 (strs [tm]) rfl hr6 (strs_one _) (by unfold maxLen; omega) (by omega) (by simp only [World.size_alloc]; omega) ?_; intro v3 w8 ho3 hg3 hat3; replace bx := blk_appended bx ho hg3 (by omega); replace B0 := below_appended B0 ho hg3 (by omega) (by simp only [World.size_alloc]; omega); obtain ⟨A3, c3, rfl, _⟩ := own_reads ho3; rw [← strs_app] at ho3; clear ho hg3 hat3 hr6 hsz mc; have ho := ho3; clear ho3; have mc := fun j => bx.cell j; have hlt0 := bx.lt)
              go_roundw
              case rel => exact ⟨j + 1, A3, c3, by go_num, by omega, rfl, by rw [HMM.out, ← List.append_assoc]; exact ho, bx, B0⟩
              case measure => simp [intOf]; omega
            · obtain rfl : j = N := by omega
              have hmap : (ms.take j).map MarkR.text = ms.map MarkR.text := by rw [List.take_of_length_le (by rw [HN.out]; exact Nat.le_refl _)]
              rw [hmap] at ho
              have hE : R = joinT (W0 ++ ms.map MarkR.text) := E.out
              rw [hE] at HSZ
              have HE := hide hE
              clear hE
              generalize W0 ++ ms.map MarkR.text = ws at *
              have TX := hide (dtext_any (g + 1) (7 + j) c A ws wr ho (by omega) (by have := HSZ.out; omega) (by omega))
              generalize joinT ws = Q at *
              have mc := fun j => bx.cell j
              clear hmap E ho
              go_wp2_with fail
              refine (TX.out).mono ?_
              rintro e w9 ⟨rfl, hb1⟩
              go_wp2_with fail
              go_ret
              exact ⟨by rw [HE.out]; rfl, by rw [HGW.out]; exact B0.trans (hb1.mono (by omega))⟩
        exact AllReadyZ.nil
      exact AllReadyZ.nil
    exact AllReadyZ.nil
  exact AllReadyZ.nil
set_option maxRecDepth 100000 in
set_option maxHeartbeats 4000000 in
theorem step_2 (th at_ : Int) (o n g' : Nat) (ms : List MarkR) (A0 : Option Addr) (N cm : Nat) (w : World) (hT : Tab w) (ht : I64 th) (ha : I64 at_) (q1 : o < 18446744073709551616) (q2 : n < 18446744073709551616) (q3 : g' < 18446744073709551616)
    (hms : ∀ m ∈ ms, MarkOk m) (hN : ms.length = N) (hl : N ≤ 20) (hr : Reads w w.heap.size 3 A0 N (ms.flatMap MarkR.cells)) :
    Calls Tryz.prog 21 #[.agg #[.int .i64 th, .int .i64 2, .int .i64 at_, .int .u64 o, .int .u64 n, .int .u64 g', .slice A0 N cm]] w fun e w' => e = .returned (.string (stepT th 2 at_ o n g' ms)) ∧ Below w.heap.size w w' := by
  obtain ⟨i0, hi0, hz0, hs0, hb0⟩ := info_parts infoStr
  have B0 := (Below.refl w.heap.size w).alloc (Nat.le_refl _) (.cells #[.int .i64 th, .int .i64 2, .int .i64 at_, .int .u64 o, .int .u64 n, .int .u64 g', .slice A0 N cm] 60)
  have bx := Blk.new w 60 #[.int .i64 th, .int .i64 2, .int .i64 at_, .int .u64 o, .int .u64 n, .int .u64 g', .slice A0 N cm]
  have IT := hide (fun w2 => int_any th w2 ht)
  have IA := hide (fun w2 => int_any at_ w2 ha)
  have TO := hide (fun w2 => text_any o w2 q1)
  have TN := hide (fun w2 => text_any n w2 q2)
  have TG := hide (fun w2 => text_any g' w2 q3)
  have NM := hide (fun w2 (h : Below w.heap.size w w2) => named_any accS accL 2 w2 (hT.below h) ⟨by omega, by omega⟩ (by decide) accS_ascii acc_fields (by decide))
  rw [show accS = ⟨#[108, 111, 97, 100, 32, 115, 116, 111, 114, 101, 32, 99, 97, 115]⟩ from rfl] at NM
  have MK := hide (fun (m : MarkR) (hm : m ∈ ms) w2 (h : Below w.heap.size w w2) => mark_any m.1 m.2.1 m.2.2 w2 (hT.below h) (hms m hm).1 (hms m hm).2.1 (hms m hm).2.2)
  have HSZ := hide (stepT_size th 2 at_ o n g' ms (by omega))
  have E := hide (show stepT th 2 at_ o n g' ms = joinT ([intT th, nmd accL 2, intT at_, numT n, eq1, numT g'] ++ ms.map MarkR.text) by simp [stepT, stepW])
  rw [show strOfNums (intL th) = intT th from rfl] at IT
  rw [show strOfNums (intL at_) = intT at_ from rfl] at IA
  rw [show strOfNums (form 10 o) = numT o from rfl] at TO
  rw [show strOfNums (form 10 n) = numT n from rfl] at TN
  rw [show strOfNums (form 10 g') = numT g' from rfl] at TG
  generalize stepT th 2 at_ o n g' ms = R at *
  generalize nmd accL 2 = nm at *
  generalize intT th = ith at *
  generalize intT at_ = iat at *
  generalize numT o = to_ at *
  generalize numT n = tn at *
  generalize numT g' = tg at *
  have HR := hide hr
  have HN := hide hN
  clear hT ht ha q1 q2 q3 hr hN hms
  go_enter Tryz.func21, Tryz.ntmps21
  go_wp2_with fail
  generalize hgw : w.heap.size = g at *
  have HGW := hide hgw
  clear hgw
  generalize w.alloc (.cells #[.int .i64 th, .int .i64 2, .int .i64 at_, .int .u64 o, .int .u64 n, .int .u64 g', .slice A0 N cm] 60) = w0 at *
  refine wp_region_heldZ [] (fun w' => w'.cell? ⟨g, 0, none⟩ = some (.int .i64 th) ∧ w'.cell? ⟨g, 1, none⟩ = some (.int .i64 2) ∧ w'.cell? ⟨g, 2, none⟩ = some (.int .i64 at_)) (by kernel_rfl) (by exact ⟨bx.cell 0, bx.cell 1, bx.cell 2⟩) (fun hHeld => ?_)
  replace bx := bx.drew
  replace B0 := B0.drew
  generalize w0.drew = wd at *
  refine' wpAnyZ_takeA (i := 0) (v := ?_) (opAt rfl) (by kernel_rfl) (by kernel_rfl) (by kernel_rfl) (by kernel_rfl) (fun _ _ _ h => h) (by assumption) (by rfl) (fun w hSw => ?_) ?_
  rotate_left
  · (try dsimp only at hSw); go_simp; (try with_reducible rfl)
  try simp only [Act.put, List.setIfInBounds_toArray, List.set_cons_zero, List.set_cons_succ]
  refine' wpAnyZ_takeA (i := 1) (v := ?_) (opAt rfl) (by kernel_rfl) (by kernel_rfl) (by kernel_rfl) (by kernel_rfl) (fun _ _ _ h => h) (by assumption) (by rfl) (fun w hSw => ?_) ?_
  rotate_left
  · (try dsimp only at hSw); go_simp; (try with_reducible rfl)
  try simp only [Act.put, List.setIfInBounds_toArray, List.set_cons_zero, List.set_cons_succ]
  refine' wpAnyZ_takeA (i := 3) (v := ?_) (opAt rfl) (by kernel_rfl) (by kernel_rfl) (by kernel_rfl) (by kernel_rfl) (fun _ _ _ h => h) (by assumption) (by rfl) (fun w hSw => ?_) ?_
  rotate_left
  · (try dsimp only at hSw); go_simp; (try with_reducible rfl)
  try simp only [Act.put, List.setIfInBounds_toArray, List.set_cons_zero, List.set_cons_succ]
  refine' wpAnyZ_takeA (i := 4) (v := ?_) (opAt rfl) (by kernel_rfl) (by kernel_rfl) (by kernel_rfl) (by kernel_rfl) (fun _ _ _ h => h) (by assumption) (by rfl) (fun w hSw => ?_) ?_
  rotate_left
  · (try dsimp only at hSw); go_simp; (try with_reducible rfl)
  try simp only [Act.put, List.setIfInBounds_toArray, List.set_cons_zero, List.set_cons_succ]
  refine' wpAnyZ_takeA (i := 5) (v := ?_) (opAt rfl) (by kernel_rfl) (by kernel_rfl) (by kernel_rfl) (by kernel_rfl) (fun _ _ _ h => h) (by assumption) (by rfl) (fun w hSw => ?_) ?_
  rotate_left
  · (try dsimp only at hSw); go_simp; (try with_reducible rfl)
  try simp only [Act.put, List.setIfInBounds_toArray, List.set_cons_zero, List.set_cons_succ]
  refine' wpAnyZ_takeA (i := 7) (v := ?_) (opAt rfl) (by kernel_rfl) (by kernel_rfl) (by kernel_rfl) (by kernel_rfl) (fun _ _ _ h => h) (by assumption) (by rfl) (fun w hSw => ?_) ?_
  rotate_left
  · (try dsimp only at hSw); go_simp; (try with_reducible rfl)
  try simp only [Act.put, List.setIfInBounds_toArray, List.set_cons_zero, List.set_cons_succ]
  refine' wpAnyZ_takeA (i := 8) (v := ?_) (opAt rfl) (by kernel_rfl) (by kernel_rfl) (by kernel_rfl) (by kernel_rfl) (fun _ _ _ h => h) (by assumption) (by rfl) (fun w hSw => ?_) ?_
  rotate_left
  · (try dsimp only at hSw); go_simp; (try with_reducible rfl)
  try simp only [Act.put, List.setIfInBounds_toArray, List.set_cons_zero, List.set_cons_succ]
  refine' wpAnyZ_takeA (i := 9) (v := ?_) (opAt rfl) (by kernel_rfl) (by kernel_rfl) (by kernel_rfl) (by kernel_rfl) (fun _ _ _ h => h) (by assumption) (by rfl) (fun w hSw => ?_) ?_
  rotate_left
  · (try dsimp only at hSw); go_simp; (try with_reducible rfl)
  try simp only [Act.put, List.setIfInBounds_toArray, List.set_cons_zero, List.set_cons_succ]
  refine wpAnyZ_ready (rs := [2]) (by kernel_rfl) (by simp) ?_
  refine AllReadyZ.cons (opAt rfl) (fun K hK => ?_) ?_
  · skip
    go_simp
    refine (IT.out _).mono ?_
    rintro e w1 ⟨rfl, hb1⟩
    replace B0 := B0.trans (hb1.mono (Nat.le_of_lt bx.lt))
    replace bx := bx.below hb1 bx.lt
    clear hb1
    try go_wp2_with fail
    refine hK.out _ _ (by exact ⟨bx.cell 0, bx.cell 1, bx.cell 2⟩) (fun hHeld => ?_)
    clear hK K
    try simp only [Act.put, List.setIfInBounds_toArray, List.set_cons_zero, List.set_cons_succ]
    refine wpAnyZ_ready (rs := [6]) (by kernel_rfl) (by simp) ?_
    refine AllReadyZ.cons (opAt rfl) (fun K hK => ?_) ?_
    · skip
      go_simp
      refine (NM.out _ B0).mono ?_
      rintro e w2 ⟨rfl, hb1⟩
      replace B0 := B0.trans (hb1.mono (Nat.le_of_lt bx.lt))
      replace bx := bx.below hb1 bx.lt
      clear hb1
      try go_wp2_with fail
      refine hK.out _ _ (by exact ⟨bx.cell 0, bx.cell 1, bx.cell 2⟩) (fun hHeld => ?_)
      clear hK K
      try simp only [Act.put, List.setIfInBounds_toArray, List.set_cons_zero, List.set_cons_succ]
      refine wpAnyZ_ready (rs := [10]) (by kernel_rfl) (by simp) ?_
      refine AllReadyZ.cons (opAt rfl) (fun K hK => ?_) ?_
      · skip
        go_simp
        refine (IA.out _).mono ?_
        rintro e w3 ⟨rfl, hb1⟩
        replace B0 := B0.trans (hb1.mono (Nat.le_of_lt bx.lt))
        replace bx := bx.below hb1 bx.lt
        clear hb1
        try go_wp2_with fail
        refine hK.out _ _ (by exact ⟨bx.cell 0, bx.cell 1, bx.cell 2⟩) (fun hHeld => ?_)
        clear hK K
        try simp only [Act.put, List.setIfInBounds_toArray, List.set_cons_zero, List.set_cons_succ]
        refine wpAnyZ_ready (rs := [11]) (by kernel_rfl) (by simp) ?_
        refine AllReadyZ.cons (opAt rfl) (fun K hK => ?_) ?_
        · skip
          go_simp
          have hsz : g + 1 ≤ w3.heap.size := bx.lt
          have ho := own_lit w3 9 #[.string ith, .string nm, .string iat] 3 (g + 1) hsz rfl (by omega)
          replace bx := bx.alloc (.cells #[.string ith, .string nm, .string iat] 9)
          replace B0 := B0.alloc (by omega) (.cells #[.string ith, .string nm, .string iat] 9)
          clear hsz
          refine hK.out _ _ (by exact ⟨bx.cell 0, bx.cell 1, bx.cell 2⟩) (fun hHeld => ?_)
          clear hK K
          try simp only [Act.put, List.setIfInBounds_toArray, List.set_cons_zero, List.set_cons_succ]
          refine' wpAnyZ_takeA (i := 12) (v := ?_) (opAt rfl) (by kernel_rfl) (by kernel_rfl) (by kernel_rfl) (by kernel_rfl) (fun _ _ _ h => h) (by assumption) (by rfl) (fun w hSw => ?_) ?_
          rotate_left
          · (try dsimp only at hSw); go_simp; (try with_reducible rfl)
          try simp only [Act.put, List.setIfInBounds_toArray, List.set_cons_zero, List.set_cons_succ]
          refine wpAnyZ_done (by kernel_rfl) ?_ _
          generalize (w3.alloc (.cells #[.string ith, .string nm, .string iat] 9)) = w4 at *
          have mc := fun j => bx.cell j
          have hlt0 := bx.lt
          replace ho : w4.ownsRow (g + 1) 9 1 _ 3 (strs [ith, nm, iat]) := ho
          go_wp2_with fail
          refine (TN.out _).mono ?_
          rintro e w5 ⟨rfl, hb1⟩
          replace B0 := B0.trans (hb1.mono (Nat.le_of_lt bx.lt))
          replace bx := bx.below hb1 bx.lt
          replace ho := own_below ho hb1
          clear hb1
          clear mc hlt0
          have mc := fun j => bx.cell j
          have hlt0 := bx.lt
          have hr6 := Reads.new w5 (strs [tn]) 9 1 1 rfl
          replace bx := bx.alloc (.cells #[.string tn] 9)
          replace ho := ho.alloc (.cells #[.string tn] 9)
          have hsz : g + 1 ≤ w5.heap.size := by have := hlt0; omega
          replace B0 := B0.alloc (show g ≤ w5.heap.size by omega) (.cells #[.string tn] 9)
          clear mc
          have mc := fun j => bx.cell j
          go_wp2_with (at_builtin; refine wpList_append_any _ rfl (.tmp 39) (.tmp 44) _ rfl (g + 1) 9 i0 _ 1 16 Tryz.underlying87 hi0 hz0 hs0 hb0 rfl (by omega) _ (3) _ rfl ho (w5.heap.size + 1) (some ⟨w5.heap.size, 0, none⟩) 1 1 (strs [tn]) rfl hr6 (strs_one _) (by unfold maxLen; omega) (by omega) (by simp only [World.size_alloc]; omega) ?_; intro v3 w6 ho3 hg3 hat3; replace bx := blk_appended bx ho hg3 (by omega); replace B0 := below_appended B0 ho hg3 (by omega) (by simp only [World.size_alloc]; omega); obtain ⟨A3, c3, rfl, _⟩ := own_reads ho3; rw [← strs_app] at ho3; clear ho hg3 hat3 hr6 hsz mc; have ho := ho3; clear ho3; have mc := fun j => bx.cell j; have hlt0 := bx.lt)
          refine (TG.out _).mono ?_
          rintro e w7 ⟨rfl, hb1⟩
          replace B0 := B0.trans (hb1.mono (Nat.le_of_lt bx.lt))
          replace bx := bx.below hb1 bx.lt
          replace ho := own_below ho hb1
          clear hb1
          clear mc hlt0
          have mc := fun j => bx.cell j
          have hlt0 := bx.lt
          have hr6 := Reads.new w7 (strs [⟨#[61]⟩, tg]) 9 2 1 rfl
          replace bx := bx.alloc (.cells #[.string ⟨#[61]⟩, .string tg] 9)
          replace ho := ho.alloc (.cells #[.string ⟨#[61]⟩, .string tg] 9)
          have hsz : g + 1 ≤ w7.heap.size := by have := hlt0; omega
          replace B0 := B0.alloc (show g ≤ w7.heap.size by omega) (.cells #[.string ⟨#[61]⟩, .string tg] 9)
          clear mc
          have mc := fun j => bx.cell j
          go_wp2_with (at_builtin; refine wpList_append_any _ rfl (.tmp 46) (.tmp 50) _ rfl (g + 1) 9 i0 _ 1 16 Tryz.underlying87 hi0 hz0 hs0 hb0 rfl (by omega) _ (3 + 1) _ rfl ho (w7.heap.size + 1) (some ⟨w7.heap.size, 0, none⟩) 2 2 (strs [⟨#[61]⟩, tg]) rfl hr6 (strs_one _) (by unfold maxLen; omega) (by omega) (by simp only [World.size_alloc]; omega) ?_; intro v3 w8 ho3 hg3 hat3; replace bx := blk_appended bx ho hg3 (by omega); replace B0 := below_appended B0 ho hg3 (by omega) (by simp only [World.size_alloc]; omega); obtain ⟨A3, c3, rfl, _⟩ := own_reads ho3; rw [← strs_app] at ho3; clear ho hg3 hat3 hr6 hsz mc; have ho := ho3; clear ho3; have mc := fun j => bx.cell j; have hlt0 := bx.lt)
          replace ho : w8.ownsRow (g + 1) 9 1 (.slice A3 (6 + 0) c3) (6 + 0) (strs ([ith, nm, iat, tn, eq1, tg] ++ (ms.take 0).map MarkR.text)) := ho
          generalize hW0 : [ith, nm, iat, tn, eq1, tg] = W0 at *
          clear hW0 mc
          go_loopw [3, 55] (StI g N 6 #[.int .i64 th, .int .i64 2, .int .i64 at_, .int .u64 o, .int .u64 n, .int .u64 g', .slice A0 N cm] W0 ms w) (fun _ v _ => N - (intOf v).toNat)
          case atStart => exact ⟨0, A3, c3, rfl, by omega, rfl, ho, bx, B0⟩
          case round =>
            clear ho bx B0 hlt0
            obtain ⟨j, A, c, rfl, hj, rfl, ho, bx, B0⟩ := hrel
            have hlt0 := bx.lt
            by_cases hlt : j < N
            · have HRB := (HR.out.below B0)
              obtain ⟨ad, m, hA, hab, hmj, z0, zz⟩ := HRB.recAt MarkR.cells_len (by omega) hlt
              have z1 := zz 1 (by omega) (by omega)
              have z2 := zz 2 (by omega) (by omega)
              clear zz HRB
              subst hA
              have HMM := hide (marks_succ hmj)
              have MKJ := hide (fun w2 h => MK.out m (List.mem_of_getElem? hmj) w2 h)
              obtain ⟨mk, ma, mb⟩ := m
              replace z0 : wr.cell? (ad.add (j * 3)) = some (.int .i64 mk) := z0
              replace z1 : wr.cell? ⟨(ad.add (j * 3)).block, (ad.add (j * 3)).off + 1, none⟩ = some (.int .u64 ma) := z1
              replace z2 : wr.cell? ⟨(ad.add (j * 3)).block, (ad.add (j * 3)).off + 2, none⟩ = some (.int .u64 mb) := z2
              have MKJ2 := hide (show ∀ w2, Below g w w2 → Calls Tryz.prog 66 #[.agg #[.int .i64 mk, .int .u64 ma, .int .u64 mb]] w2 fun e w' => e = .returned (.string (MarkR.text (mk, ma, mb))) ∧ Below w2.heap.size w2 w' from MKJ.out)
              clear MKJ hmj hab
              generalize MarkR.text (mk, ma, mb) = tm at *
              have hltz : (j : Int) < (N : Int) := by omega
              have mb0 := Blk.new wr 57 #[.int .i64 mk, .int .u64 ma, .int .u64 mb]
              replace bx := bx.alloc (.cells #[.int .i64 mk, .int .u64 ma, .int .u64 mb] 57)
              replace ho := ho.alloc (.cells #[.int .i64 mk, .int .u64 ma, .int .u64 mb] 57)
              replace B0 := B0.alloc (show g ≤ wr.heap.size by omega) (.cells #[.int .i64 mk, .int .u64 ma, .int .u64 mb] 57)
              have mm := fun j => mb0.cell j
              go_wp2_with fail
              refine (MKJ2.out _ B0).mono ?_
              rintro e w7 ⟨rfl, hb1⟩
              replace B0 := B0.trans (hb1.mono (Nat.le_of_lt bx.lt))
              replace bx := bx.below hb1 bx.lt
              replace ho := own_below ho hb1
              clear hb1
              clear hlt0 mm mb0 z0 z1 z2
              have mc := fun j => bx.cell j
              have hlt0 := bx.lt
              have hr6 := Reads.new w7 (strs [tm]) 9 1 1 rfl
              replace bx := bx.alloc (.cells #[.string tm] 9)
              replace ho := ho.alloc (.cells #[.string tm] 9)
              have hsz : g + 1 ≤ w7.heap.size := by have := hlt0; omega
              replace B0 := B0.alloc (show g ≤ w7.heap.size by omega) (.cells #[.string tm] 9)
              clear mc
              have mc := fun j => bx.cell j
              go_wp2_with (at_builtin; refine wpList_append_any _ rfl (.tmp 59) (.tmp 62) _ rfl (g + 1) 9 i0 _ 1 16 Tryz.underlying87 hi0 hz0 hs0 hb0 rfl (by omega) _ (6 + j) _ rfl ho (w7.heap.size + 1) (some ⟨w7.heap.size, 0, none⟩) 1 1 (strs [tm]) rfl hr6 (strs_one _) (by unfold maxLen; omega) (by omega) (by simp only [World.size_alloc]; omega) ?_; intro v3 w8 ho3 hg3 hat3; replace bx := blk_appended bx ho hg3 (by omega); replace B0 := below_appended B0 ho hg3 (by omega) (by simp only [World.size_alloc]; omega); obtain ⟨A3, c3, rfl, _⟩ := own_reads ho3; rw [← strs_app] at ho3; clear ho hg3 hat3 hr6 hsz mc; have ho := ho3; clear ho3; have mc := fun j => bx.cell j; have hlt0 := bx.lt)
              go_roundw
              case rel => exact ⟨j + 1, A3, c3, by go_num, by omega, rfl, by rw [HMM.out, ← List.append_assoc]; exact ho, bx, B0⟩
              case measure => simp [intOf]; omega
            · obtain rfl : j = N := by omega
              have hmap : (ms.take j).map MarkR.text = ms.map MarkR.text := by rw [List.take_of_length_le (by rw [HN.out]; exact Nat.le_refl _)]
              rw [hmap] at ho
              have hE : R = joinT (W0 ++ ms.map MarkR.text) := E.out
              rw [hE] at HSZ
              have HE := hide hE
              clear hE
              generalize W0 ++ ms.map MarkR.text = ws at *
              have TX := hide (dtext_any (g + 1) (6 + j) c A ws wr ho (by omega) (by have := HSZ.out; omega) (by omega))
              generalize joinT ws = Q at *
              have mc := fun j => bx.cell j
              clear hmap E ho
              go_wp2_with fail
              refine (TX.out).mono ?_
              rintro e w9 ⟨rfl, hb1⟩
              go_wp2_with fail
              go_ret
              exact ⟨by rw [HE.out]; rfl, by rw [HGW.out]; exact B0.trans (hb1.mono (by omega))⟩
        exact AllReadyZ.nil
      exact AllReadyZ.nil
    exact AllReadyZ.nil
  exact AllReadyZ.nil
set_option maxRecDepth 100000 in
set_option maxHeartbeats 4000000 in
theorem step_x (th k at_ : Int) (o n g' : Nat) (ms : List MarkR) (A0 : Option Addr) (N cm : Nat) (w : World) (hT : Tab w) (hk : I64 k) (h3 : k ≠ 3) (h2 : k ≠ 2) (ht : I64 th) (ha : I64 at_) (q1 : o < 18446744073709551616) (q2 : n < 18446744073709551616) (q3 : g' < 18446744073709551616)
    (hms : ∀ m ∈ ms, MarkOk m) (hN : ms.length = N) (hl : N ≤ 20) (hr : Reads w w.heap.size 3 A0 N (ms.flatMap MarkR.cells)) :
    Calls Tryz.prog 21 #[.agg #[.int .i64 th, .int .i64 k, .int .i64 at_, .int .u64 o, .int .u64 n, .int .u64 g', .slice A0 N cm]] w fun e w' => e = .returned (.string (stepT th k at_ o n g' ms)) ∧ Below w.heap.size w w' := by
  obtain ⟨i0, hi0, hz0, hs0, hb0⟩ := info_parts infoStr
  have B0 := (Below.refl w.heap.size w).alloc (Nat.le_refl _) (.cells #[.int .i64 th, .int .i64 k, .int .i64 at_, .int .u64 o, .int .u64 n, .int .u64 g', .slice A0 N cm] 60)
  have bx := Blk.new w 60 #[.int .i64 th, .int .i64 k, .int .i64 at_, .int .u64 o, .int .u64 n, .int .u64 g', .slice A0 N cm]
  have IT := hide (fun w2 => int_any th w2 ht)
  have IA := hide (fun w2 => int_any at_ w2 ha)
  have TO := hide (fun w2 => text_any o w2 q1)
  have TN := hide (fun w2 => text_any n w2 q2)
  have TG := hide (fun w2 => text_any g' w2 q3)
  have NM := hide (fun w2 (h : Below w.heap.size w w2) => named_any accS accL k w2 (hT.below h) hk (by decide) accS_ascii acc_fields (by decide))
  rw [show accS = ⟨#[108, 111, 97, 100, 32, 115, 116, 111, 114, 101, 32, 99, 97, 115]⟩ from rfl] at NM
  have MK := hide (fun (m : MarkR) (hm : m ∈ ms) w2 (h : Below w.heap.size w w2) => mark_any m.1 m.2.1 m.2.2 w2 (hT.below h) (hms m hm).1 (hms m hm).2.1 (hms m hm).2.2)
  have HSZ := hide (stepT_size th k at_ o n g' ms (by omega))
  have E := hide (show stepT th k at_ o n g' ms = joinT ([intT th, nmd accL k, intT at_, eq1, numT g'] ++ ms.map MarkR.text) by simp [stepT, stepW, h3, h2])
  rw [show strOfNums (intL th) = intT th from rfl] at IT
  rw [show strOfNums (intL at_) = intT at_ from rfl] at IA
  rw [show strOfNums (form 10 o) = numT o from rfl] at TO
  rw [show strOfNums (form 10 n) = numT n from rfl] at TN
  rw [show strOfNums (form 10 g') = numT g' from rfl] at TG
  generalize stepT th k at_ o n g' ms = R at *
  generalize nmd accL k = nm at *
  generalize intT th = ith at *
  generalize intT at_ = iat at *
  generalize numT o = to_ at *
  generalize numT n = tn at *
  generalize numT g' = tg at *
  have HR := hide hr
  have HN := hide hN
  have k3 : (k == 3) = false := by simpa using h3
  have k2 : (k == 2) = false := by simpa using h2
  clear hT ht ha q1 q2 q3 hr hN hms hk h3 h2
  go_enter Tryz.func21, Tryz.ntmps21
  go_wp2_with fail
  generalize hgw : w.heap.size = g at *
  have HGW := hide hgw
  clear hgw
  generalize w.alloc (.cells #[.int .i64 th, .int .i64 k, .int .i64 at_, .int .u64 o, .int .u64 n, .int .u64 g', .slice A0 N cm] 60) = w0 at *
  refine wp_region_heldZ [] (fun w' => w'.cell? ⟨g, 0, none⟩ = some (.int .i64 th) ∧ w'.cell? ⟨g, 1, none⟩ = some (.int .i64 k) ∧ w'.cell? ⟨g, 2, none⟩ = some (.int .i64 at_)) (by kernel_rfl) (by exact ⟨bx.cell 0, bx.cell 1, bx.cell 2⟩) (fun hHeld => ?_)
  replace bx := bx.drew
  replace B0 := B0.drew
  generalize w0.drew = wd at *
  refine' wpAnyZ_takeA (i := 0) (v := ?_) (opAt rfl) (by kernel_rfl) (by kernel_rfl) (by kernel_rfl) (by kernel_rfl) (fun _ _ _ h => h) (by assumption) (by rfl) (fun w hSw => ?_) ?_
  rotate_left
  · (try dsimp only at hSw); go_simp; (try with_reducible rfl)
  try simp only [Act.put, List.setIfInBounds_toArray, List.set_cons_zero, List.set_cons_succ]
  refine' wpAnyZ_takeA (i := 1) (v := ?_) (opAt rfl) (by kernel_rfl) (by kernel_rfl) (by kernel_rfl) (by kernel_rfl) (fun _ _ _ h => h) (by assumption) (by rfl) (fun w hSw => ?_) ?_
  rotate_left
  · (try dsimp only at hSw); go_simp; (try with_reducible rfl)
  try simp only [Act.put, List.setIfInBounds_toArray, List.set_cons_zero, List.set_cons_succ]
  refine' wpAnyZ_takeA (i := 3) (v := ?_) (opAt rfl) (by kernel_rfl) (by kernel_rfl) (by kernel_rfl) (by kernel_rfl) (fun _ _ _ h => h) (by assumption) (by rfl) (fun w hSw => ?_) ?_
  rotate_left
  · (try dsimp only at hSw); go_simp; (try with_reducible rfl)
  try simp only [Act.put, List.setIfInBounds_toArray, List.set_cons_zero, List.set_cons_succ]
  refine' wpAnyZ_takeA (i := 4) (v := ?_) (opAt rfl) (by kernel_rfl) (by kernel_rfl) (by kernel_rfl) (by kernel_rfl) (fun _ _ _ h => h) (by assumption) (by rfl) (fun w hSw => ?_) ?_
  rotate_left
  · (try dsimp only at hSw); go_simp; (try with_reducible rfl)
  try simp only [Act.put, List.setIfInBounds_toArray, List.set_cons_zero, List.set_cons_succ]
  refine' wpAnyZ_takeA (i := 5) (v := ?_) (opAt rfl) (by kernel_rfl) (by kernel_rfl) (by kernel_rfl) (by kernel_rfl) (fun _ _ _ h => h) (by assumption) (by rfl) (fun w hSw => ?_) ?_
  rotate_left
  · (try dsimp only at hSw); go_simp; (try with_reducible rfl)
  try simp only [Act.put, List.setIfInBounds_toArray, List.set_cons_zero, List.set_cons_succ]
  refine' wpAnyZ_takeA (i := 7) (v := ?_) (opAt rfl) (by kernel_rfl) (by kernel_rfl) (by kernel_rfl) (by kernel_rfl) (fun _ _ _ h => h) (by assumption) (by rfl) (fun w hSw => ?_) ?_
  rotate_left
  · (try dsimp only at hSw); go_simp; (try with_reducible rfl)
  try simp only [Act.put, List.setIfInBounds_toArray, List.set_cons_zero, List.set_cons_succ]
  refine' wpAnyZ_takeA (i := 8) (v := ?_) (opAt rfl) (by kernel_rfl) (by kernel_rfl) (by kernel_rfl) (by kernel_rfl) (fun _ _ _ h => h) (by assumption) (by rfl) (fun w hSw => ?_) ?_
  rotate_left
  · (try dsimp only at hSw); go_simp; (try with_reducible rfl)
  try simp only [Act.put, List.setIfInBounds_toArray, List.set_cons_zero, List.set_cons_succ]
  refine' wpAnyZ_takeA (i := 9) (v := ?_) (opAt rfl) (by kernel_rfl) (by kernel_rfl) (by kernel_rfl) (by kernel_rfl) (fun _ _ _ h => h) (by assumption) (by rfl) (fun w hSw => ?_) ?_
  rotate_left
  · (try dsimp only at hSw); go_simp; (try with_reducible rfl)
  try simp only [Act.put, List.setIfInBounds_toArray, List.set_cons_zero, List.set_cons_succ]
  refine wpAnyZ_ready (rs := [2]) (by kernel_rfl) (by simp) ?_
  refine AllReadyZ.cons (opAt rfl) (fun K hK => ?_) ?_
  · skip
    go_simp
    refine (IT.out _).mono ?_
    rintro e w1 ⟨rfl, hb1⟩
    replace B0 := B0.trans (hb1.mono (Nat.le_of_lt bx.lt))
    replace bx := bx.below hb1 bx.lt
    clear hb1
    try go_wp2_with fail
    refine hK.out _ _ (by exact ⟨bx.cell 0, bx.cell 1, bx.cell 2⟩) (fun hHeld => ?_)
    clear hK K
    try simp only [Act.put, List.setIfInBounds_toArray, List.set_cons_zero, List.set_cons_succ]
    refine wpAnyZ_ready (rs := [6]) (by kernel_rfl) (by simp) ?_
    refine AllReadyZ.cons (opAt rfl) (fun K hK => ?_) ?_
    · skip
      go_simp
      refine (NM.out _ B0).mono ?_
      rintro e w2 ⟨rfl, hb1⟩
      replace B0 := B0.trans (hb1.mono (Nat.le_of_lt bx.lt))
      replace bx := bx.below hb1 bx.lt
      clear hb1
      try go_wp2_with fail
      refine hK.out _ _ (by exact ⟨bx.cell 0, bx.cell 1, bx.cell 2⟩) (fun hHeld => ?_)
      clear hK K
      try simp only [Act.put, List.setIfInBounds_toArray, List.set_cons_zero, List.set_cons_succ]
      refine wpAnyZ_ready (rs := [10]) (by kernel_rfl) (by simp) ?_
      refine AllReadyZ.cons (opAt rfl) (fun K hK => ?_) ?_
      · skip
        go_simp
        refine (IA.out _).mono ?_
        rintro e w3 ⟨rfl, hb1⟩
        replace B0 := B0.trans (hb1.mono (Nat.le_of_lt bx.lt))
        replace bx := bx.below hb1 bx.lt
        clear hb1
        try go_wp2_with fail
        refine hK.out _ _ (by exact ⟨bx.cell 0, bx.cell 1, bx.cell 2⟩) (fun hHeld => ?_)
        clear hK K
        try simp only [Act.put, List.setIfInBounds_toArray, List.set_cons_zero, List.set_cons_succ]
        refine wpAnyZ_ready (rs := [11]) (by kernel_rfl) (by simp) ?_
        refine AllReadyZ.cons (opAt rfl) (fun K hK => ?_) ?_
        · skip
          go_simp
          have hsz : g + 1 ≤ w3.heap.size := bx.lt
          have ho := own_lit w3 9 #[.string ith, .string nm, .string iat] 3 (g + 1) hsz rfl (by omega)
          replace bx := bx.alloc (.cells #[.string ith, .string nm, .string iat] 9)
          replace B0 := B0.alloc (by omega) (.cells #[.string ith, .string nm, .string iat] 9)
          clear hsz
          refine hK.out _ _ (by exact ⟨bx.cell 0, bx.cell 1, bx.cell 2⟩) (fun hHeld => ?_)
          clear hK K
          try simp only [Act.put, List.setIfInBounds_toArray, List.set_cons_zero, List.set_cons_succ]
          refine' wpAnyZ_takeA (i := 12) (v := ?_) (opAt rfl) (by kernel_rfl) (by kernel_rfl) (by kernel_rfl) (by kernel_rfl) (fun _ _ _ h => h) (by assumption) (by rfl) (fun w hSw => ?_) ?_
          rotate_left
          · (try dsimp only at hSw); go_simp; (try with_reducible rfl)
          try simp only [Act.put, List.setIfInBounds_toArray, List.set_cons_zero, List.set_cons_succ]
          refine wpAnyZ_done (by kernel_rfl) ?_ _
          generalize (w3.alloc (.cells #[.string ith, .string nm, .string iat] 9)) = w4 at *
          have mc := fun j => bx.cell j
          have hlt0 := bx.lt
          replace ho : w4.ownsRow (g + 1) 9 1 _ 3 (strs [ith, nm, iat]) := ho
          go_wp2_with fail
          refine (TG.out _).mono ?_
          rintro e w5 ⟨rfl, hb1⟩
          replace B0 := B0.trans (hb1.mono (Nat.le_of_lt bx.lt))
          replace bx := bx.below hb1 bx.lt
          replace ho := own_below ho hb1
          clear hb1
          clear mc hlt0
          have mc := fun j => bx.cell j
          have hlt0 := bx.lt
          have hr6 := Reads.new w5 (strs [⟨#[61]⟩, tg]) 9 2 1 rfl
          replace bx := bx.alloc (.cells #[.string ⟨#[61]⟩, .string tg] 9)
          replace ho := ho.alloc (.cells #[.string ⟨#[61]⟩, .string tg] 9)
          have hsz : g + 1 ≤ w5.heap.size := by have := hlt0; omega
          replace B0 := B0.alloc (show g ≤ w5.heap.size by omega) (.cells #[.string ⟨#[61]⟩, .string tg] 9)
          clear mc
          have mc := fun j => bx.cell j
          go_wp2_with (at_builtin; refine wpList_append_any _ rfl (.tmp 46) (.tmp 50) _ rfl (g + 1) 9 i0 _ 1 16 Tryz.underlying87 hi0 hz0 hs0 hb0 rfl (by omega) _ (3) _ rfl ho (w5.heap.size + 1) (some ⟨w5.heap.size, 0, none⟩) 2 2 (strs [⟨#[61]⟩, tg]) rfl hr6 (strs_one _) (by unfold maxLen; omega) (by omega) (by simp only [World.size_alloc]; omega) ?_; intro v3 w6 ho3 hg3 hat3; replace bx := blk_appended bx ho hg3 (by omega); replace B0 := below_appended B0 ho hg3 (by omega) (by simp only [World.size_alloc]; omega); obtain ⟨A3, c3, rfl, _⟩ := own_reads ho3; rw [← strs_app] at ho3; clear ho hg3 hat3 hr6 hsz mc; have ho := ho3; clear ho3; have mc := fun j => bx.cell j; have hlt0 := bx.lt)
          replace ho : w6.ownsRow (g + 1) 9 1 (.slice A3 (5 + 0) c3) (5 + 0) (strs ([ith, nm, iat, eq1, tg] ++ (ms.take 0).map MarkR.text)) := ho
          generalize hW0 : [ith, nm, iat, eq1, tg] = W0 at *
          clear hW0 mc
          go_loopw [3, 55] (StI g N 5 #[.int .i64 th, .int .i64 k, .int .i64 at_, .int .u64 o, .int .u64 n, .int .u64 g', .slice A0 N cm] W0 ms w) (fun _ v _ => N - (intOf v).toNat)
          case atStart => exact ⟨0, A3, c3, rfl, by omega, rfl, ho, bx, B0⟩
          case round =>
            clear ho bx B0 hlt0
            obtain ⟨j, A, c, rfl, hj, rfl, ho, bx, B0⟩ := hrel
            have hlt0 := bx.lt
            by_cases hlt : j < N
            · have HRB := (HR.out.below B0)
              obtain ⟨ad, m, hA, hab, hmj, z0, zz⟩ := HRB.recAt MarkR.cells_len (by omega) hlt
              have z1 := zz 1 (by omega) (by omega)
              have z2 := zz 2 (by omega) (by omega)
              clear zz HRB
              subst hA
              have HMM := hide (marks_succ hmj)
              have MKJ := hide (fun w2 h => MK.out m (List.mem_of_getElem? hmj) w2 h)
              obtain ⟨mk, ma, mb⟩ := m
              replace z0 : wr.cell? (ad.add (j * 3)) = some (.int .i64 mk) := z0
              replace z1 : wr.cell? ⟨(ad.add (j * 3)).block, (ad.add (j * 3)).off + 1, none⟩ = some (.int .u64 ma) := z1
              replace z2 : wr.cell? ⟨(ad.add (j * 3)).block, (ad.add (j * 3)).off + 2, none⟩ = some (.int .u64 mb) := z2
              have MKJ2 := hide (show ∀ w2, Below g w w2 → Calls Tryz.prog 66 #[.agg #[.int .i64 mk, .int .u64 ma, .int .u64 mb]] w2 fun e w' => e = .returned (.string (MarkR.text (mk, ma, mb))) ∧ Below w2.heap.size w2 w' from MKJ.out)
              clear MKJ hmj hab
              generalize MarkR.text (mk, ma, mb) = tm at *
              have hltz : (j : Int) < (N : Int) := by omega
              have mb0 := Blk.new wr 57 #[.int .i64 mk, .int .u64 ma, .int .u64 mb]
              replace bx := bx.alloc (.cells #[.int .i64 mk, .int .u64 ma, .int .u64 mb] 57)
              replace ho := ho.alloc (.cells #[.int .i64 mk, .int .u64 ma, .int .u64 mb] 57)
              replace B0 := B0.alloc (show g ≤ wr.heap.size by omega) (.cells #[.int .i64 mk, .int .u64 ma, .int .u64 mb] 57)
              have mm := fun j => mb0.cell j
              go_wp2_with fail
              refine (MKJ2.out _ B0).mono ?_
              rintro e w7 ⟨rfl, hb1⟩
              replace B0 := B0.trans (hb1.mono (Nat.le_of_lt bx.lt))
              replace bx := bx.below hb1 bx.lt
              replace ho := own_below ho hb1
              clear hb1
              clear hlt0 mm mb0 z0 z1 z2
              have mc := fun j => bx.cell j
              have hlt0 := bx.lt
              have hr6 := Reads.new w7 (strs [tm]) 9 1 1 rfl
              replace bx := bx.alloc (.cells #[.string tm] 9)
              replace ho := ho.alloc (.cells #[.string tm] 9)
              have hsz : g + 1 ≤ w7.heap.size := by have := hlt0; omega
              replace B0 := B0.alloc (show g ≤ w7.heap.size by omega) (.cells #[.string tm] 9)
              clear mc
              have mc := fun j => bx.cell j
              go_wp2_with (at_builtin; refine wpList_append_any _ rfl (.tmp 59) (.tmp 62) _ rfl (g + 1) 9 i0 _ 1 16 Tryz.underlying87 hi0 hz0 hs0 hb0 rfl (by omega) _ (5 + j) _ rfl ho (w7.heap.size + 1) (some ⟨w7.heap.size, 0, none⟩) 1 1 (strs [tm]) rfl hr6 (strs_one _) (by unfold maxLen; omega) (by omega) (by simp only [World.size_alloc]; omega) ?_; intro v3 w8 ho3 hg3 hat3; replace bx := blk_appended bx ho hg3 (by omega); replace B0 := below_appended B0 ho hg3 (by omega) (by simp only [World.size_alloc]; omega); obtain ⟨A3, c3, rfl, _⟩ := own_reads ho3; rw [← strs_app] at ho3; clear ho hg3 hat3 hr6 hsz mc; have ho := ho3; clear ho3; have mc := fun j => bx.cell j; have hlt0 := bx.lt)
              go_roundw
              case rel => exact ⟨j + 1, A3, c3, by go_num, by omega, rfl, by rw [HMM.out, ← List.append_assoc]; exact ho, bx, B0⟩
              case measure => simp [intOf]; omega
            · obtain rfl : j = N := by omega
              have hmap : (ms.take j).map MarkR.text = ms.map MarkR.text := by rw [List.take_of_length_le (by rw [HN.out]; exact Nat.le_refl _)]
              rw [hmap] at ho
              have hE : R = joinT (W0 ++ ms.map MarkR.text) := E.out
              rw [hE] at HSZ
              have HE := hide hE
              clear hE
              generalize W0 ++ ms.map MarkR.text = ws at *
              have TX := hide (dtext_any (g + 1) (5 + j) c A ws wr ho (by omega) (by have := HSZ.out; omega) (by omega))
              generalize joinT ws = Q at *
              have mc := fun j => bx.cell j
              clear hmap E ho
              go_wp2_with fail
              refine (TX.out).mono ?_
              rintro e w9 ⟨rfl, hb1⟩
              go_wp2_with fail
              go_ret
              exact ⟨by rw [HE.out]; rfl, by rw [HGW.out]; exact B0.trans (hb1.mono (by omega))⟩
        exact AllReadyZ.nil
      exact AllReadyZ.nil
    exact AllReadyZ.nil
  exact AllReadyZ.nil
end Go.Proofs.YtlnckjemfabckaaGreatDoor

/-
  gleaningref38.Step: a step's words.
-/
namespace Go.Proofs.YtlnckjemfabckaaGreatDoor
open Go.RowKit

theorem joinT_app1 {ws : List ByteArray} (h : ws ≠ []) (x : ByteArray) : joinT (ws ++ [x]) = joinT ws ++ sp1 ++ x := by
  cases ws with
  | nil => exact absurd rfl h
  | cons w ws => exact joinT_snoc w ws x
theorem joinT_fold (w : ByteArray) (ws : List ByteArray) : joinT (w :: ws) = ws.foldl (fun a x => a ++ sp1 ++ x) w := by
  have key : ∀ (ws pre : List ByteArray), pre ≠ [] → joinT (pre ++ ws) = ws.foldl (fun a x => a ++ sp1 ++ x) (joinT pre) := by
    intro ws
    induction ws with
    | nil => intro pre _; simp
    | cons y ws ih =>
      intro pre hp
      have h := ih (pre ++ [y]) (by simp)
      rw [List.append_assoc, List.singleton_append, joinT_app1 hp] at h
      rw [h]
      rfl
  have h := key ws [w] (by simp)
  rw [joinT_one] at h
  exact h
theorem eq_sp : (⟨#[32, 61, 32]⟩ : ByteArray) = sp1 ++ (eq1 ++ sp1) := rfl
def RStI (g N : Nat) (cells : Array Value) (W0 : List ByteArray) (ms : List MarkR) (w : World) (v3 v4 : Value) (wr : World) : Prop :=
  ∃ (j : Nat), v4 = .int .i64 j ∧ j ≤ N ∧ v3 = .string (joinT (W0 ++ (ms.take j).map MarkR.text)) ∧ Blk wr g 60 cells ∧ Below g w wr
end Go.Proofs.YtlnckjemfabckaaGreatDoor

/-
  gleaningref38.Node.
-/
namespace Go.Proofs.YtlnckjemfabckaaGreatDoor
open Go.RowKit

set_option maxHeartbeats 400000 in
theorem rhtext_any (h : Int) (w : World) (hh : W64 h) : Calls Tryz.prog 51 #[.int .u64 h] w fun e w' => e = .returned (.string (htx h)) ∧ Below w.heap.size w w' := by
  have Gn := hide (fun w => rhg_any h w hh)
  have b : 0 ≤ hsl h ∧ hsl h < 65536 := by unfold hsl; omega
  have b' : 0 ≤ hgn h ∧ hgn h < 16777216 := by unfold hgn; omega
  obtain ⟨m, hm⟩ := Int.eq_ofNat_of_zero_le b.1
  obtain ⟨n, hn⟩ := Int.eq_ofNat_of_zero_le b'.1
  have In := hide (fun w => rform_any 10 m w (by omega) (by omega))
  have Tx := hide (fun w => rform_any 10 n w (by omega) (by omega))
  rw [← hn, show ((10 : Nat) : Int) = 10 from rfl] at Tx
  rw [← hm, show ((10 : Nat) : Int) = 10 from rfl] at In
  have E := hide (show htx h = (strOfNums (form 10 m) ++ ⟨#[58]⟩) ++ strOfNums (form 10 n) by
    unfold htx
    rw [hm, hn, Int.toNat_natCast, Int.toNat_natCast])
  have z1 := form_size 10 m
  have z2 := form_size 10 n
  have t1 : h.tmod 65536 = hsl h := Int.tmod_eq_emod_of_nonneg hh.1
  have t2 : h % 65536 = hsl h := rfl
  clear hm hn b b'
  generalize htx h = R at *
  generalize strOfNums (form 10 m) = s1 at *
  generalize strOfNums (form 10 n) = s2 at *
  have z3 : (s1 ++ (⟨#[58]⟩ : ByteArray)).size ≤ 65 := by
    rw [ByteArray.size_append]
    show s1.size + 1 ≤ 65
    omega
  generalize hsl h = sv at *
  generalize hgn h = gv at *
  obtain ⟨h1, h2⟩ := hh
  go_enter Tryz.func51, Tryz.ntmps51
  go_wp2_with fail
  refine (In.out _).mono ?_
  rintro e w1 ⟨rfl, hb1⟩
  go_wp2_with fail
  refine (Gn.out _).mono ?_
  rintro e w' ⟨rfl, rfl⟩
  go_wp2_with fail
  refine (Tx.out _).mono ?_
  rintro e w2 ⟨rfl, hb2⟩
  go_wp2_with fail
  go_ret
  exact ⟨by rw [E.out]; rfl, hb1.trans (hb2.mono hb1.size)⟩
theorem sp_inner : (⟨#[32, 105, 110, 110, 101, 114]⟩ : ByteArray) = sp1 ++ innerB := rfl
theorem sp_leaf : (⟨#[32, 108, 101, 97, 102]⟩ : ByteArray) = sp1 ++ leafB := rfl
theorem sp_locked : (⟨#[32, 108, 111, 99, 107, 101, 100]⟩ : ByteArray) = sp1 ++ lockedB := rfl
theorem sp_dead : (⟨#[32, 100, 101, 97, 100]⟩ : ByteArray) = sp1 ++ deadB := rfl
theorem sp_next : (⟨#[32, 110, 101, 120, 116, 32]⟩ : ByteArray) = sp1 ++ (nextB ++ sp1) := rfl
theorem joinT_two (a b : ByteArray) : joinT [a, b] = a ++ sp1 ++ b := by rw [joinT_fold]; rfl
def RNd (g4 N : Nat) (W0 : List ByteArray) (b : Bool) (ks vs : List Int) (w4 : World) (v9 v10 : Value) (wr : World) : Prop :=
  ∃ (j : Nat), v10 = .int .i64 j ∧ j ≤ N ∧ v9 = .string (joinT (wC W0 b ks vs j)) ∧ Below g4 w4 wr
set_option maxRecDepth 100000 in
set_option maxHeartbeats 4000000 in
theorem rdnode_in (g : Nat) (s t f l p k : Int) (N0 c0 : Nat) (ws : List Int) (w : World) (hs : 1 ≤ s ∧ s ≤ 1000) (ht : 1 ≤ t ∧ t ≤ 64) (hf : 4 ≤ f ∧ f ≤ 64) (hk : 0 ≤ k ∧ k ≤ s) (hN0 : laySize s t f = N0) (hl : ws.length = N0) (R : RefOk w g ws) (h64 : AllW64 ws) (hin : nodI ws t f k = true) :
    Calls Tryz.prog 13 #[.agg #[.int .i64 s, .int .i64 t, .int .i64 f, .int .i64 l, .int .i64 p], .slice (some ⟨g, 0, none⟩) N0 c0, .int .i64 k] w fun e w' => e = .returned (.string (nodeT ws t f k)) ∧ Below w.heap.size w w' := by
  have hbd := nB_bd hs ht hf (sl := k) (by omega)
  have RV := hide (fun w2 => rver_any s t f l p k w2 hs ht hf hk)
  have AN := hide (fun w2 R => rnode_yes g s t f l p k N0 c0 ws w2 hs ht hf hk hN0 hl R h64)
  have hx := wGet_w64 h64 (nB t f k)
  have VO := hide (fun w2 => rof_any (wGet ws (nB t f k)) w2 hx)
  have hgw : W64 (vgen (wGet ws (nB t f k))) := by obtain ⟨a, b⟩ := hx; unfold vgen; exact ⟨by omega, by omega⟩
  have HM := hide (fun w2 => rhm_any (vgen (wGet ws (nB t f k))) k w2 hgw ⟨by omega, by omega⟩)
  have HT := hide (fun w2 => rhtext_any (hmk (vgen (wGet ws (nB t f k))) k) w2 (hmk_bound _ _))
  have HK64 := hide (show ∀ x ∈ nodK ws t f k, W64 x from rowL_w64 h64 _ _)
  have HV64 := hide (show ∀ x ∈ nodV ws t f k, W64 x from rowL_w64 h64 _ _)
  have HLK := hide (show W64 (nodL ws t f k) from wGet_w64 h64 _)
  have HVN := hide (show (nodV ws t f k).length ≤ 64 by
    have h1 := nodN_le (t := t) (k := k) h64 hf
    unfold nodV
    rw [rowL_len]
    omega)
  have HKN := hide (show (nodK ws t f k).length = (nodV ws t f k).length - 1 by
    unfold nodK nodV
    rw [rowL_len, rowL_len]
    unfold nodKn
    rw [hin]
    simp)
  obtain ⟨s0, hs0'⟩ : ∃ s0, s0 = (if k = 0 then anchorB else htx (hmk (vgen (wGet ws (nB t f k))) k)) := ⟨_, rfl⟩
  have E := hide (show nodeT ws t f k = joinT (nodeL s0 innerB (vlocked (wGet ws (nB t f k))) (vdead (wGet ws (nB t f k))) true (nodK ws t f k) (nodV ws t f k) (nodL ws t f k)) by
    unfold nodeT
    rw [hin, hs0']
    rfl)
  have hs0z : s0.size ≤ 140 := by
    rw [hs0']
    split
    · decide
    · have := htx_size (hmk (vgen (wGet ws (nB t f k))) k); omega
  have hsT := htx_size (hmk (vgen (wGet ws (nB t f k))) k)
  obtain ⟨q, hq⟩ : ∃ q : Nat, nB t f k = q := Int.eq_ofNat_of_zero_le (by omega)
  have hqN : q < N0 := by omega
  have AT := hide (show ∀ w2, RefOk w2 g ws → w2.cell? ⟨g, q, none⟩ = some (.int .u64 (wGet ws (nB t f k))) from fun w2 R2 => by
    have h := R2.at_ (j := q) (by omega)
    rw [hq, wGet_at (by omega)]
    exact h)
  rw [hin] at AN
  rw [hq] at RV
  have HS0 := hide hs0'
  have VO2 := hide (show ∀ w2, Calls Tryz.prog 50 #[.int .u64 (wGet ws (nB t f k))] w2 fun e w' => e = .returned (.agg #[.bool (vlocked (wGet ws (nB t f k))), .bool (vdead (wGet ws (nB t f k))), .int .u64 (vcnt (wGet ws (nB t f k))), .int .u64 (vgen (wGet ws (nB t f k)))]) ∧ Below w2.heap.size w2 w' from VO.out)
  clear VO
  generalize nodeT ws t f k = R0 at *
  generalize vlocked (wGet ws (nB t f k)) = lo at *
  generalize vdead (wGet ws (nB t f k)) = de at *
  generalize htx (hmk (vgen (wGet ws (nB t f k))) k) = th at *
  generalize hmk (vgen (wGet ws (nB t f k))) k = hv at *
  generalize vgen (wGet ws (nB t f k)) = gn at *
  generalize vcnt (wGet ws (nB t f k)) = cn at *
  generalize wGet ws (nB t f k) = x at *
  generalize nodK ws t f k = ks at *
  generalize nodV ws t f k = vs at *
  generalize nodL ws t f k = lk at *
  have hk0 : 0 ≤ k := hk.1
  have hk1 : k ≤ s := hk.2
  have hN1 : ((N0 : Int) == 0) = false := by simp; omega
  have hqN2 : (q : Int) < (N0 : Int) := by omega
  have B0 := (Below.refl w.heap.size w).alloc (Nat.le_refl _) (.cells #[.int .i64 s, .int .i64 t, .int .i64 f, .int .i64 l, .int .i64 p] 23)
  have bc := Blk.new w 23 #[.int .i64 s, .int .i64 t, .int .i64 f, .int .i64 l, .int .i64 p]
  replace R := Blk.alloc R (.cells #[.int .i64 s, .int .i64 t, .int .i64 f, .int .i64 l, .int .i64 p] 23)
  replace R := (show RefOk _ g ws from R)
  have mc := fun i => bc.cell i
  clear hs ht hf hk hbd hx h64 hin hs0' hN0 hl hgw hq
  go_enter Tryz.func13, Tryz.ntmps13
  go_wp2_with fail
  refine (AN.out _ R).mono ?_
  rintro e w1 ⟨⟨v, rfl, hnd⟩, hb1⟩
  obtain ⟨kv, uv, rfl, o1, o2⟩ := hnd
  obtain ⟨A1, c1, rfl, _⟩ := own_reads o1
  obtain ⟨A2, c2, rfl, _⟩ := own_reads o2
  replace R := (show RefOk _ g ws from Blk.below R hb1 (Blk.lt R))
  replace bc := bc.below hb1 bc.lt
  replace B0 := B0.trans (hb1.mono B0.size)
  clear hb1 mc
  have bn := Blk.new w1 82 #[.bool true, .slice A1 ks.length c1, .slice A2 vs.length c2, .int .u64 lk]
  replace o1 := World.ownsRow.alloc o1 (.cells #[.bool true, .slice A1 ks.length c1, .slice A2 vs.length c2, .int .u64 lk] 82)
  replace o2 := World.ownsRow.alloc o2 (.cells #[.bool true, .slice A1 ks.length c1, .slice A2 vs.length c2, .int .u64 lk] 82)
  replace R := (show RefOk _ g ws from Blk.alloc R (.cells #[.bool true, .slice A1 ks.length c1, .slice A2 vs.length c2, .int .u64 lk] 82))
  replace bc := bc.alloc (.cells #[.bool true, .slice A1 ks.length c1, .slice A2 vs.length c2, .int .u64 lk] 82)
  replace B0 := B0.alloc B0.size (.cells #[.bool true, .slice A1 ks.length c1, .slice A2 vs.length c2, .int .u64 lk] 82)
  have mc := fun i => bc.cell i
  go_wp2_with fail
  generalize hbn : w1.heap.size = bnn at *
  clear hbn
  generalize w1.alloc (.cells #[.bool true, .slice A1 ks.length c1, .slice A2 vs.length c2, .int .u64 lk] 82) = w2 at *
  refine (RV.out _).mono ?_
  rintro e w3 ⟨rfl, hb1⟩
  replace R := (show RefOk _ g ws from Blk.below R hb1 (Blk.lt R))
  replace bn := bn.below hb1 bn.lt
  replace o1 := own_below o1 hb1
  replace o2 := own_below o2 hb1
  replace B0 := B0.trans (hb1.mono B0.size)
  clear hb1 mc bc
  have at0 := AT.out _ R
  go_wp2_with fail
  refine (VO2.out _).mono ?_
  rintro e w4 ⟨rfl, hb1⟩
  replace bn := bn.below hb1 bn.lt
  replace o1 := own_below o1 hb1
  replace o2 := own_below o2 hb1
  replace B0 := B0.trans (hb1.mono B0.size)
  clear hb1 at0 R
  have bv := Blk.new w4 77 #[.bool lo, .bool de, .int .u64 cn, .int .u64 gn]
  replace bn := bn.alloc (.cells #[.bool lo, .bool de, .int .u64 cn, .int .u64 gn] 77)
  replace o1 := World.ownsRow.alloc o1 (.cells #[.bool lo, .bool de, .int .u64 cn, .int .u64 gn] 77)
  replace o2 := World.ownsRow.alloc o2 (.cells #[.bool lo, .bool de, .int .u64 cn, .int .u64 gn] 77)
  replace B0 := B0.alloc B0.size (.cells #[.bool lo, .bool de, .int .u64 cn, .int .u64 gn] 77)
  go_upto_if 36 with fail
  generalize hbv : w4.heap.size = bvn at *
  clear hbv
  generalize w4.alloc (.cells #[.bool lo, .bool de, .int .u64 cn, .int .u64 gn] 77) = w5 at *
  have HBN := hide bn
  have HBV := hide bv
  have HBL := hide bn.lt
  have HVL := hide bv.lt
  have HR1 := hide (Reads.of_own o1)
  have HR2 := hide (Reads.of_own o2)
  have HB0 := hide B0
  have Bq := Below.refl w5.heap.size w5
  generalize hg4 : w5.heap.size = g4 at *
  have HG4 := hide hg4
  clear bn bv o1 o2 B0 hg4
  go_cut [9] from 36 to 41 (fun s9 wx => s9 = .string s0 ∧ Below g4 w5 wx)
  case first =>
    cases hqk : decide (0 < k)
    case true =>
      have h0 : 0 < k := by simpa using hqk
      have hs9 : s0 = th := HS0.out.trans (if_neg (by omega))
      have HS9 := hide hs9
      have bvx := HBV.out.below Bq HVL.out
      have mv := fun i => bvx.cell i
      clear hqk hs9
      go_wp2_with fail
      refine (HM.out _).mono ?_
      rintro e w6 ⟨rfl, rfl⟩
      go_wp2_with fail
      refine (HT.out _).mono ?_
      rintro e w6 ⟨rfl, hb1⟩
      go_wp2_with fail
      go_meet
      exact ⟨by rw [HS9.out], Bq.trans (hb1.mono (by have h1 := Bq.size; have h2 := HG4.out; omega))⟩
    case false =>
      have h0 : ¬ 0 < k := by simpa using hqk
      have hs9 : s0 = anchorB := HS0.out.trans (if_pos (by omega))
      have HS9 := hide hs9
      clear hqk hs9
      go_wp2_with fail
      go_meet
      exact ⟨by rw [HS9.out]; rfl, Bq⟩
  case rest =>
    clear Bq
    obtain ⟨rfl, Bq⟩ := hcut
    have bnx := HBN.out.below Bq HBL.out
    have bvx := HBV.out.below Bq HVL.out
    have mn := fun i => bnx.cell i
    have mv := fun i => bvx.cell i
    go_upto_if 49 with fail
    clear mn mv bnx bvx
    generalize wc = wm at *
    go_cut [9] from 49 to 51 (fun s9 wx => s9 = .string (joinT (wA s0 innerB lo)) ∧ Below g4 w5 wx)
    case first =>
      have hz9 : (s0 ++ ⟨#[32, 105, 110, 110, 101, 114]⟩).size ≤ 200 := (by have h1 := hs0z; have h2 : (⟨#[32, 105, 110, 110, 101, 114]⟩ : ByteArray).size ≤ 10 := (by decide); rw [ba_size]; omega)
      have hE8 := hide (show joinT (wA s0 innerB false) = s0 ++ ⟨#[32, 105, 110, 110, 101, 114]⟩ by show joinT [s0, innerB] = _; rw [joinT_two, sp_inner, ba_assoc])
      cases lo
      case false =>
        go_wp2_with fail
        go_meet
        exact ⟨by rw [hE8.out], Bq⟩
      case true =>
        have hE9 := hide (show joinT (wA s0 innerB true) = s0 ++ ⟨#[32, 105, 110, 110, 101, 114]⟩ ++ ⟨#[32, 108, 111, 99, 107, 101, 100]⟩ by show joinT [s0, innerB, lockedB] = _; rw [joinT_fold, sp_inner, sp_locked]; simp only [List.foldl_cons, List.foldl_nil, ba_assoc])
        generalize s0 ++ ⟨#[32, 105, 110, 110, 101, 114]⟩ = acc at *
        go_wp2_with fail
        go_meet
        exact ⟨by rw [hE9.out], Bq⟩
    case rest =>
      clear Bq
      obtain ⟨rfl, Bq⟩ := hcut
      have bvx := HBV.out.below Bq HVL.out
      have mv := fun i => bvx.cell i
      have hWA : (joinT (wA s0 innerB lo)).size ≤ 600 := by
        have h1 := joinT_size_le (wA s0 innerB lo) 140 (fun x hx => wB_ok (s0 := s0) (s1 := innerB) hs0z (by decide) lo de x (by unfold wB; rw [List.mem_append]; exact .inl hx))
        have h2 : (wA s0 innerB lo).length ≤ 3 := by cases lo <;> simp [wA]
        have h3 := Nat.mul_le_mul_right (140 + 1) h2
        omega
      have hWNE : wA s0 innerB lo ≠ [] := by simp [wA]
      have HWD := hide (show joinT (wB s0 innerB lo true) = joinT (wA s0 innerB lo) ++ ⟨#[32, 100, 101, 97, 100]⟩ by show joinT (wA s0 innerB lo ++ [deadB]) = _; rw [joinT_app1 hWNE, sp_dead, ba_assoc])
      have HWD0 := hide (show joinT (wB s0 innerB lo false) = joinT (wA s0 innerB lo) by simp [wB])
      generalize joinT (wA s0 innerB lo) = acc at *
      clear hWNE
      go_upto_if 53 with fail
      clear mv bvx
      generalize wc = wm at *
      go_cut [9] from 53 to 55 (fun s9 wx => s9 = .string (joinT (wB s0 innerB lo de)) ∧ Below g4 w5 wx)
      case first =>
        cases de
        case false =>
          go_wp2_with fail
          go_meet
          exact ⟨by rw [HWD0.out], Bq⟩
        case true =>
          go_wp2_with fail
          go_meet
          exact ⟨by rw [HWD.out], Bq⟩
      case rest =>
        clear Bq HWD HWD0 hWA
        obtain ⟨rfl, Bq⟩ := hcut
        have HWOK := hide (wB_ok (s1 := innerB) hs0z (by decide) lo de)
        have HWLN := hide (wB_len s0 innerB lo de)
        have HWNE := hide (wB_ne s0 innerB lo de)
        have HEL := hide (show nodeL s0 innerB lo de true ks vs lk = wC (wB s0 innerB lo de) true ks vs vs.length ++ (if true = false ∧ lk ≠ 0 then [nextB, htx lk] else []) from rfl)
        rw [HEL.out] at E
        generalize wB s0 innerB lo de = W0 at *
        clear HEL
        obtain ⟨N, hN⟩ : ∃ N, vs.length = N := ⟨_, rfl⟩
        have HN := hide hN
        clear hN
        go_wp2_with fail
        go_loopw [9, 10] (RNd g4 N W0 true ks vs w5) (fun _ v _ => N - (intOf v).toNat)
        case atStart => exact ⟨0, rfl, by omega, by rw [wC_zero], Bq⟩
        case round =>
          clear Bq
          obtain ⟨j, rfl, hj, rfl, Bq⟩ := hrel
          have HN64 := HVN.out
          rw [HN.out] at HN64
          have bnx := HBN.out.below Bq HBL.out
          have mn := fun i => bnx.cell i
          have hac := joinT_wC HWOK.out HWLN.out true ks vs j (by omega)
          have hJNE := wC_ne HWNE.out true ks vs j
          by_cases hlt : j < N
          · have hltz : (j : Int) < (vs.length : Int) := by have := HN.out; omega
            have hltn : j < vs.length := by have := HN.out; omega
            have HVB := (HR2.out.below Bq)
            obtain ⟨a2, hA2, hl2, z2⟩ := HVB.word hltn
            subst hA2
            have HW2 := HV64.out _ (List.getElem_mem hl2)
            have hg2 : vs.getD j 0 = vs[j] := by simp [List.getD, hl2]
            generalize vs[j] = vj at *
            clear HVB hl2
            have HTV := hide (fun w2 => rhtext_any vj w2 HW2)
            have s6 := htx_size vj
            by_cases hj0 : j = 0
            · have hj1 : ¬ 0 < (j : Int) := by omega
              have HEW := hide (show joinT (wC W0 true ks vs (j + 1)) = joinT (wC W0 true ks vs j) ++ ⟨#[32]⟩ ++ htx vj by rw [wC_succ]; unfold entW; rw [if_pos rfl, if_pos hj0, hg2, joinT_app1 hJNE]; rfl)
              clear hg2 HW2 hj0 hJNE
              generalize joinT (wC W0 true ks vs j) = acc at *
              generalize htx vj = tv at *
              go_wp2_with fail
              refine (HTV.out _).mono ?_
              rintro e w7 ⟨rfl, hb1⟩
              replace bnx := bnx.below hb1 bnx.lt
              replace Bq := Bq.trans (hb1.mono (by have h1 := Bq.size; have h2 := HG4.out; omega))
              clear hb1 mn
              have mn := fun i => bnx.cell i
              go_wp2_with fail
              go_roundw
              case rel => exact ⟨j + 1, by go_num, by omega, by rw [HEW.out], Bq⟩
              case measure => simp [intOf]; omega
            · obtain ⟨i, hji⟩ : ∃ i : Nat, j = i + 1 := ⟨j - 1, by omega⟩
              have hiz2 : i < ks.length := by have h1 := HKN.out; omega
              have hiz : (i : Int) < (ks.length : Int) := by omega
              have HKB := (HR1.out.below Bq)
              obtain ⟨a1, hA1, hl1, z1⟩ := HKB.word hiz2
              subst hA1
              have HW1 := HK64.out _ (List.getElem_mem hl1)
              have hg1 : ks.getD i 0 = ks[i] := by simp [List.getD, hl1]
              generalize ks[i] = ki at *
              clear HKB hl1
              have DE := hide (fun w2 => numberi_any ki w2 HW1)
              have s5 := numI_size ki
              have HEW := hide (show joinT (wC W0 true ks vs (j + 1)) = joinT (wC W0 true ks vs j) ++ ⟨#[32]⟩ ++ numI ki ++ ⟨#[32]⟩ ++ htx vj by
                rw [wC_succ]
                unfold entW
                rw [if_pos rfl, if_neg hj0, hg2, show j - 1 = i by omega, hg1, show wC W0 true ks vs j ++ [numI ki, htx vj] = (wC W0 true ks vs j ++ [numI ki]) ++ [htx vj] by simp, joinT_app1 (by simp), joinT_app1 hJNE]
                rfl)
              clear hg1 hg2 HW1 HW2 hJNE
              generalize joinT (wC W0 true ks vs j) = acc at *
              generalize htx vj = tv at *
              generalize numI ki = nk at *
              have hj1 : 0 < (j : Int) := by omega
              have e1 : wrap64 ((j : Int) - 1) = (i : Int) := by unfold wrap64; omega
              have e2 : (j : Int) - 1 = (i : Int) := by omega
              have HJI := hide hji
              clear hji
              go_wp2_with fail
              refine (DE.out _).mono ?_
              rintro e w7 ⟨rfl, hb1⟩
              replace bnx := bnx.below hb1 bnx.lt
              replace z2 := keepCell hb1 z2
              replace Bq := Bq.trans (hb1.mono (by have h1 := Bq.size; have h2 := HG4.out; omega))
              clear hb1 mn z1
              have mn := fun i => bnx.cell i
              go_wp2_with fail
              refine (HTV.out _).mono ?_
              rintro e w8 ⟨rfl, hb1⟩
              replace bnx := bnx.below hb1 bnx.lt
              replace Bq := Bq.trans (hb1.mono (by have h1 := Bq.size; have h2 := HG4.out; omega))
              clear hb1 mn
              have mn := fun i => bnx.cell i
              go_wp2_with fail
              go_roundw
              case rel => exact ⟨j + 1, by go_num, by omega, by rw [HEW.out], Bq⟩
              case measure => simp [intOf]; omega
          · obtain rfl : j = N := by omega
            have hge : ¬ (j : Int) < (vs.length : Int) := by have := HN.out; omega
            have hge2 : vs.length ≤ j := by have := HN.out; omega
            have HE := hide (show R0 = joinT (wC W0 true ks vs j) by rw [E.out, HN.out]; simp)
            generalize joinT (wC W0 true ks vs j) = acc at *
            go_wp2_with fail
            go_ret
            exact ⟨by rw [HE.out]; rfl, HB0.out.trans (Bq.mono (by rw [← HG4.out]; exact HB0.out.size))⟩
set_option maxRecDepth 100000 in
set_option maxHeartbeats 4000000 in
theorem rdnode_leaf (g : Nat) (s t f l p k : Int) (N0 c0 : Nat) (ws : List Int) (w : World) (hs : 1 ≤ s ∧ s ≤ 1000) (ht : 1 ≤ t ∧ t ≤ 64) (hf : 4 ≤ f ∧ f ≤ 64) (hk : 0 ≤ k ∧ k ≤ s) (hN0 : laySize s t f = N0) (hl : ws.length = N0) (R : RefOk w g ws) (h64 : AllW64 ws) (hin : nodI ws t f k = false) :
    Calls Tryz.prog 13 #[.agg #[.int .i64 s, .int .i64 t, .int .i64 f, .int .i64 l, .int .i64 p], .slice (some ⟨g, 0, none⟩) N0 c0, .int .i64 k] w fun e w' => e = .returned (.string (nodeT ws t f k)) ∧ Below w.heap.size w w' := by
  have hbd := nB_bd hs ht hf (sl := k) (by omega)
  have RV := hide (fun w2 => rver_any s t f l p k w2 hs ht hf hk)
  have AN := hide (fun w2 R => rnode_yes g s t f l p k N0 c0 ws w2 hs ht hf hk hN0 hl R h64)
  have hx := wGet_w64 h64 (nB t f k)
  have VO := hide (fun w2 => rof_any (wGet ws (nB t f k)) w2 hx)
  have hgw : W64 (vgen (wGet ws (nB t f k))) := by obtain ⟨a, b⟩ := hx; unfold vgen; exact ⟨by omega, by omega⟩
  have HM := hide (fun w2 => rhm_any (vgen (wGet ws (nB t f k))) k w2 hgw ⟨by omega, by omega⟩)
  have HT := hide (fun w2 => rhtext_any (hmk (vgen (wGet ws (nB t f k))) k) w2 (hmk_bound _ _))
  have HK64 := hide (show ∀ x ∈ nodK ws t f k, W64 x from rowL_w64 h64 _ _)
  have HV64 := hide (show ∀ x ∈ nodV ws t f k, W64 x from rowL_w64 h64 _ _)
  have HLK := hide (show W64 (nodL ws t f k) from wGet_w64 h64 _)
  have HVN := hide (show (nodV ws t f k).length ≤ 64 by
    have h1 := nodN_le (t := t) (k := k) h64 hf
    unfold nodV
    rw [rowL_len]
    omega)
  have HKN := hide (show (nodK ws t f k).length = (nodV ws t f k).length by
    unfold nodK nodV
    rw [rowL_len, rowL_len]
    unfold nodKn
    rw [hin]
    simp)
  obtain ⟨s0, hs0'⟩ : ∃ s0, s0 = (if k = 0 then anchorB else htx (hmk (vgen (wGet ws (nB t f k))) k)) := ⟨_, rfl⟩
  have E := hide (show nodeT ws t f k = joinT (nodeL s0 leafB (vlocked (wGet ws (nB t f k))) (vdead (wGet ws (nB t f k))) false (nodK ws t f k) (nodV ws t f k) (nodL ws t f k)) by
    unfold nodeT
    rw [hin, hs0']
    rfl)
  have hs0z : s0.size ≤ 140 := by
    rw [hs0']
    split
    · decide
    · have := htx_size (hmk (vgen (wGet ws (nB t f k))) k); omega
  have hsT := htx_size (hmk (vgen (wGet ws (nB t f k))) k)
  obtain ⟨q, hq⟩ : ∃ q : Nat, nB t f k = q := Int.eq_ofNat_of_zero_le (by omega)
  have hqN : q < N0 := by omega
  have AT := hide (show ∀ w2, RefOk w2 g ws → w2.cell? ⟨g, q, none⟩ = some (.int .u64 (wGet ws (nB t f k))) from fun w2 R2 => by
    have h := R2.at_ (j := q) (by omega)
    rw [hq, wGet_at (by omega)]
    exact h)
  rw [hin] at AN
  rw [hq] at RV
  have HS0 := hide hs0'
  have VO2 := hide (show ∀ w2, Calls Tryz.prog 50 #[.int .u64 (wGet ws (nB t f k))] w2 fun e w' => e = .returned (.agg #[.bool (vlocked (wGet ws (nB t f k))), .bool (vdead (wGet ws (nB t f k))), .int .u64 (vcnt (wGet ws (nB t f k))), .int .u64 (vgen (wGet ws (nB t f k)))]) ∧ Below w2.heap.size w2 w' from VO.out)
  clear VO
  generalize nodeT ws t f k = R0 at *
  generalize vlocked (wGet ws (nB t f k)) = lo at *
  generalize vdead (wGet ws (nB t f k)) = de at *
  generalize htx (hmk (vgen (wGet ws (nB t f k))) k) = th at *
  generalize hmk (vgen (wGet ws (nB t f k))) k = hv at *
  generalize vgen (wGet ws (nB t f k)) = gn at *
  generalize vcnt (wGet ws (nB t f k)) = cn at *
  generalize wGet ws (nB t f k) = x at *
  generalize nodK ws t f k = ks at *
  generalize nodV ws t f k = vs at *
  generalize nodL ws t f k = lk at *
  have hk0 : 0 ≤ k := hk.1
  have hk1 : k ≤ s := hk.2
  have hN1 : ((N0 : Int) == 0) = false := by simp; omega
  have hqN2 : (q : Int) < (N0 : Int) := by omega
  have B0 := (Below.refl w.heap.size w).alloc (Nat.le_refl _) (.cells #[.int .i64 s, .int .i64 t, .int .i64 f, .int .i64 l, .int .i64 p] 23)
  have bc := Blk.new w 23 #[.int .i64 s, .int .i64 t, .int .i64 f, .int .i64 l, .int .i64 p]
  replace R := Blk.alloc R (.cells #[.int .i64 s, .int .i64 t, .int .i64 f, .int .i64 l, .int .i64 p] 23)
  replace R := (show RefOk _ g ws from R)
  have mc := fun i => bc.cell i
  clear hs ht hf hk hbd hx h64 hin hs0' hN0 hl hgw hq
  go_enter Tryz.func13, Tryz.ntmps13
  go_wp2_with fail
  refine (AN.out _ R).mono ?_
  rintro e w1 ⟨⟨v, rfl, hnd⟩, hb1⟩
  obtain ⟨kv, uv, rfl, o1, o2⟩ := hnd
  obtain ⟨A1, c1, rfl, _⟩ := own_reads o1
  obtain ⟨A2, c2, rfl, _⟩ := own_reads o2
  replace R := (show RefOk _ g ws from Blk.below R hb1 (Blk.lt R))
  replace bc := bc.below hb1 bc.lt
  replace B0 := B0.trans (hb1.mono B0.size)
  clear hb1 mc
  have bn := Blk.new w1 82 #[.bool false, .slice A1 ks.length c1, .slice A2 vs.length c2, .int .u64 lk]
  replace o1 := World.ownsRow.alloc o1 (.cells #[.bool false, .slice A1 ks.length c1, .slice A2 vs.length c2, .int .u64 lk] 82)
  replace o2 := World.ownsRow.alloc o2 (.cells #[.bool false, .slice A1 ks.length c1, .slice A2 vs.length c2, .int .u64 lk] 82)
  replace R := (show RefOk _ g ws from Blk.alloc R (.cells #[.bool false, .slice A1 ks.length c1, .slice A2 vs.length c2, .int .u64 lk] 82))
  replace bc := bc.alloc (.cells #[.bool false, .slice A1 ks.length c1, .slice A2 vs.length c2, .int .u64 lk] 82)
  replace B0 := B0.alloc B0.size (.cells #[.bool false, .slice A1 ks.length c1, .slice A2 vs.length c2, .int .u64 lk] 82)
  have mc := fun i => bc.cell i
  go_wp2_with fail
  generalize hbn : w1.heap.size = bnn at *
  clear hbn
  generalize w1.alloc (.cells #[.bool false, .slice A1 ks.length c1, .slice A2 vs.length c2, .int .u64 lk] 82) = w2 at *
  refine (RV.out _).mono ?_
  rintro e w3 ⟨rfl, hb1⟩
  replace R := (show RefOk _ g ws from Blk.below R hb1 (Blk.lt R))
  replace bn := bn.below hb1 bn.lt
  replace o1 := own_below o1 hb1
  replace o2 := own_below o2 hb1
  replace B0 := B0.trans (hb1.mono B0.size)
  clear hb1 mc bc
  have at0 := AT.out _ R
  go_wp2_with fail
  refine (VO2.out _).mono ?_
  rintro e w4 ⟨rfl, hb1⟩
  replace bn := bn.below hb1 bn.lt
  replace o1 := own_below o1 hb1
  replace o2 := own_below o2 hb1
  replace B0 := B0.trans (hb1.mono B0.size)
  clear hb1 at0 R
  have bv := Blk.new w4 77 #[.bool lo, .bool de, .int .u64 cn, .int .u64 gn]
  replace bn := bn.alloc (.cells #[.bool lo, .bool de, .int .u64 cn, .int .u64 gn] 77)
  replace o1 := World.ownsRow.alloc o1 (.cells #[.bool lo, .bool de, .int .u64 cn, .int .u64 gn] 77)
  replace o2 := World.ownsRow.alloc o2 (.cells #[.bool lo, .bool de, .int .u64 cn, .int .u64 gn] 77)
  replace B0 := B0.alloc B0.size (.cells #[.bool lo, .bool de, .int .u64 cn, .int .u64 gn] 77)
  go_upto_if 36 with fail
  generalize hbv : w4.heap.size = bvn at *
  clear hbv
  generalize w4.alloc (.cells #[.bool lo, .bool de, .int .u64 cn, .int .u64 gn] 77) = w5 at *
  have HBN := hide bn
  have HBV := hide bv
  have HBL := hide bn.lt
  have HVL := hide bv.lt
  have HR1 := hide (Reads.of_own o1)
  have HR2 := hide (Reads.of_own o2)
  have HB0 := hide B0
  have Bq := Below.refl w5.heap.size w5
  generalize hg4 : w5.heap.size = g4 at *
  have HG4 := hide hg4
  clear bn bv o1 o2 B0 hg4
  go_cut [9] from 36 to 41 (fun s9 wx => s9 = .string s0 ∧ Below g4 w5 wx)
  case first =>
    cases hqk : decide (0 < k)
    case true =>
      have h0 : 0 < k := by simpa using hqk
      have hs9 : s0 = th := HS0.out.trans (if_neg (by omega))
      have HS9 := hide hs9
      have bvx := HBV.out.below Bq HVL.out
      have mv := fun i => bvx.cell i
      clear hqk hs9
      go_wp2_with fail
      refine (HM.out _).mono ?_
      rintro e w6 ⟨rfl, rfl⟩
      go_wp2_with fail
      refine (HT.out _).mono ?_
      rintro e w6 ⟨rfl, hb1⟩
      go_wp2_with fail
      go_meet
      exact ⟨by rw [HS9.out], Bq.trans (hb1.mono (by have h1 := Bq.size; have h2 := HG4.out; omega))⟩
    case false =>
      have h0 : ¬ 0 < k := by simpa using hqk
      have hs9 : s0 = anchorB := HS0.out.trans (if_pos (by omega))
      have HS9 := hide hs9
      clear hqk hs9
      go_wp2_with fail
      go_meet
      exact ⟨by rw [HS9.out]; rfl, Bq⟩
  case rest =>
    clear Bq
    obtain ⟨rfl, Bq⟩ := hcut
    have bnx := HBN.out.below Bq HBL.out
    have bvx := HBV.out.below Bq HVL.out
    have mn := fun i => bnx.cell i
    have mv := fun i => bvx.cell i
    go_upto_if 49 with fail
    clear mn mv bnx bvx
    generalize wc = wm at *
    go_cut [9] from 49 to 51 (fun s9 wx => s9 = .string (joinT (wA s0 leafB lo)) ∧ Below g4 w5 wx)
    case first =>
      have hz9 : (s0 ++ ⟨#[32, 108, 101, 97, 102]⟩).size ≤ 200 := (by have h1 := hs0z; have h2 : (⟨#[32, 108, 101, 97, 102]⟩ : ByteArray).size ≤ 10 := (by decide); rw [ba_size]; omega)
      have hE8 := hide (show joinT (wA s0 leafB false) = s0 ++ ⟨#[32, 108, 101, 97, 102]⟩ by show joinT [s0, leafB] = _; rw [joinT_two, sp_leaf, ba_assoc])
      cases lo
      case false =>
        go_wp2_with fail
        go_meet
        exact ⟨by rw [hE8.out], Bq⟩
      case true =>
        have hE9 := hide (show joinT (wA s0 leafB true) = s0 ++ ⟨#[32, 108, 101, 97, 102]⟩ ++ ⟨#[32, 108, 111, 99, 107, 101, 100]⟩ by show joinT [s0, leafB, lockedB] = _; rw [joinT_fold, sp_leaf, sp_locked]; simp only [List.foldl_cons, List.foldl_nil, ba_assoc])
        generalize s0 ++ ⟨#[32, 108, 101, 97, 102]⟩ = acc at *
        go_wp2_with fail
        go_meet
        exact ⟨by rw [hE9.out], Bq⟩
    case rest =>
      clear Bq
      obtain ⟨rfl, Bq⟩ := hcut
      have bvx := HBV.out.below Bq HVL.out
      have mv := fun i => bvx.cell i
      have hWA : (joinT (wA s0 leafB lo)).size ≤ 600 := by
        have h1 := joinT_size_le (wA s0 leafB lo) 140 (fun x hx => wB_ok (s0 := s0) (s1 := leafB) hs0z (by decide) lo de x (by unfold wB; rw [List.mem_append]; exact .inl hx))
        have h2 : (wA s0 leafB lo).length ≤ 3 := by cases lo <;> simp [wA]
        have h3 := Nat.mul_le_mul_right (140 + 1) h2
        omega
      have hWNE : wA s0 leafB lo ≠ [] := by simp [wA]
      have HWD := hide (show joinT (wB s0 leafB lo true) = joinT (wA s0 leafB lo) ++ ⟨#[32, 100, 101, 97, 100]⟩ by show joinT (wA s0 leafB lo ++ [deadB]) = _; rw [joinT_app1 hWNE, sp_dead, ba_assoc])
      have HWD0 := hide (show joinT (wB s0 leafB lo false) = joinT (wA s0 leafB lo) by simp [wB])
      generalize joinT (wA s0 leafB lo) = acc at *
      clear hWNE
      go_upto_if 53 with fail
      clear mv bvx
      generalize wc = wm at *
      go_cut [9] from 53 to 55 (fun s9 wx => s9 = .string (joinT (wB s0 leafB lo de)) ∧ Below g4 w5 wx)
      case first =>
        cases de
        case false =>
          go_wp2_with fail
          go_meet
          exact ⟨by rw [HWD0.out], Bq⟩
        case true =>
          go_wp2_with fail
          go_meet
          exact ⟨by rw [HWD.out], Bq⟩
      case rest =>
        clear Bq HWD HWD0 hWA
        obtain ⟨rfl, Bq⟩ := hcut
        have HWOK := hide (wB_ok (s1 := leafB) hs0z (by decide) lo de)
        have HWLN := hide (wB_len s0 leafB lo de)
        have HWNE := hide (wB_ne s0 leafB lo de)
        have HEL := hide (show nodeL s0 leafB lo de false ks vs lk = wC (wB s0 leafB lo de) false ks vs vs.length ++ (if false = false ∧ lk ≠ 0 then [nextB, htx lk] else []) from rfl)
        rw [HEL.out] at E
        generalize wB s0 leafB lo de = W0 at *
        clear HEL
        obtain ⟨N, hN⟩ : ∃ N, vs.length = N := ⟨_, rfl⟩
        have HN := hide hN
        clear hN
        go_wp2_with fail
        go_loopw [9, 10] (RNd g4 N W0 false ks vs w5) (fun _ v _ => N - (intOf v).toNat)
        case atStart => exact ⟨0, rfl, by omega, by rw [wC_zero], Bq⟩
        case round =>
          clear Bq
          obtain ⟨j, rfl, hj, rfl, Bq⟩ := hrel
          have HN64 := HVN.out
          rw [HN.out] at HN64
          have bnx := HBN.out.below Bq HBL.out
          have mn := fun i => bnx.cell i
          have hac := joinT_wC HWOK.out HWLN.out false ks vs j (by omega)
          have hJNE := wC_ne HWNE.out false ks vs j
          by_cases hlt : j < N
          · have hltz : (j : Int) < (vs.length : Int) := by have := HN.out; omega
            have hltn : j < vs.length := by have := HN.out; omega
            have HVB := (HR2.out.below Bq)
            obtain ⟨a2, hA2, hl2, z2⟩ := HVB.word hltn
            subst hA2
            have HW2 := HV64.out _ (List.getElem_mem hl2)
            have hg2 : vs.getD j 0 = vs[j] := by simp [List.getD, hl2]
            generalize vs[j] = vj at *
            clear HVB hl2
            have hjk : j < ks.length := by have h1 := HKN.out; omega
            have hjk2 : (j : Int) < (ks.length : Int) := by omega
            have HKB := (HR1.out.below Bq)
            obtain ⟨a1, hA1, hl1, z1⟩ := HKB.word hjk
            subst hA1
            have HW1 := HK64.out _ (List.getElem_mem hl1)
            have hg1 : ks.getD j 0 = ks[j] := by simp [List.getD, hl1]
            generalize ks[j] = kj at *
            clear HKB hl1
            have N1 := hide (fun w2 => numberi_any kj w2 HW1)
            have N2 := hide (fun w2 => numberi_any vj w2 HW2)
            have s5 := numI_size kj
            have s6 := numI_size vj
            have HEW := hide (show joinT (wC W0 false ks vs (j + 1)) = joinT (wC W0 false ks vs j) ++ ⟨#[32]⟩ ++ numI kj ++ ⟨#[61]⟩ ++ numI vj by
              rw [wC_succ]
              unfold entW
              rw [hg1, hg2, if_neg (by simp), joinT_app1 hJNE]
              unfold entT
              simp only [ba_assoc]
              rfl)
            clear hg1 hg2 HW1 HW2 hJNE
            generalize joinT (wC W0 false ks vs j) = acc at *
            generalize numI kj = nk at *
            generalize numI vj = nv at *
            go_wp2_with fail
            refine wp_region_heldZ [] (fun w' => w'.cell? ⟨bnn, 1, none⟩ = some (.slice (some a1) ks.length c1) ∧ w'.cell? ⟨bnn, 2, none⟩ = some (.slice (some a2) vs.length c2) ∧ w'.cell? (a1.add j) = some (.int .u64 kj) ∧ w'.cell? (a2.add j) = some (.int .u64 vj)) (by kernel_rfl) (by exact ⟨bnx.cell 1, bnx.cell 2, z1, z2⟩) (fun hHeld => ?_)
            replace bnx := bnx.drew
            replace Bq := Bq.drew
            replace z1 := hHeld.2.2.1
            replace z2 := hHeld.2.2.2
            clear mn
            generalize wr.drew = wd at *
            refine' wpAnyZ_takeA (i := 0) (v := ?_) (opAt rfl) (by kernel_rfl) (by kernel_rfl) (by kernel_rfl) (by kernel_rfl) (fun _ _ _ h => h) (by assumption) (by rfl) (fun w hSw => ?_) ?_
            rotate_left
            · (try dsimp only at hSw); go_simp; (try with_reducible rfl)
            try simp only [Act.put, List.setIfInBounds_toArray, List.set_cons_zero, List.set_cons_succ]
            refine' wpAnyZ_takeA (i := 1) (v := ?_) (opAt rfl) (by kernel_rfl) (by kernel_rfl) (by kernel_rfl) (by kernel_rfl) (fun _ _ _ h => h) (by assumption) (by rfl) (fun w hSw => ?_) ?_
            rotate_left
            · (try dsimp only at hSw); go_simp; (try rw [if_neg (by omega)]); (try with_reducible rfl)
            try simp only [Act.put, List.setIfInBounds_toArray, List.set_cons_zero, List.set_cons_succ]
            refine' wpAnyZ_takeA (i := 2) (v := ?_) (opAt rfl) (by kernel_rfl) (by kernel_rfl) (by kernel_rfl) (by kernel_rfl) (fun _ _ _ h => h) (by assumption) (by rfl) (fun w hSw => ?_) ?_
            rotate_left
            · (try dsimp only at hSw); go_simp; (try with_reducible rfl)
            try simp only [Act.put, List.setIfInBounds_toArray, List.set_cons_zero, List.set_cons_succ]
            refine' wpAnyZ_takeA (i := 3) (v := ?_) (opAt rfl) (by kernel_rfl) (by kernel_rfl) (by kernel_rfl) (by kernel_rfl) (fun _ _ _ h => h) (by assumption) (by rfl) (fun w hSw => ?_) ?_
            rotate_left
            · (try dsimp only at hSw); go_simp; (try with_reducible rfl)
            try simp only [Act.put, List.setIfInBounds_toArray, List.set_cons_zero, List.set_cons_succ]
            refine' wpAnyZ_takeA (i := 4) (v := ?_) (opAt rfl) (by kernel_rfl) (by kernel_rfl) (by kernel_rfl) (by kernel_rfl) (fun _ _ _ h => h) (by assumption) (by rfl) (fun w hSw => ?_) ?_
            rotate_left
            · (try dsimp only at hSw); go_simp; (try with_reducible rfl)
            try simp only [Act.put, List.setIfInBounds_toArray, List.set_cons_zero, List.set_cons_succ]
            refine' wpAnyZ_takeA (i := 5) (v := ?_) (opAt rfl) (by kernel_rfl) (by kernel_rfl) (by kernel_rfl) (by kernel_rfl) (fun _ _ _ h => h) (by assumption) (by rfl) (fun w hSw => ?_) ?_
            rotate_left
            · (try dsimp only at hSw); go_simp; (try with_reducible rfl)
            try simp only [Act.put, List.setIfInBounds_toArray, List.set_cons_zero, List.set_cons_succ]
            refine' wpAnyZ_takeA (i := 6) (v := ?_) (opAt rfl) (by kernel_rfl) (by kernel_rfl) (by kernel_rfl) (by kernel_rfl) (fun _ _ _ h => h) (by assumption) (by rfl) (fun w hSw => ?_) ?_
            rotate_left
            · (try dsimp only at hSw); go_simp; (try with_reducible rfl)
            try simp only [Act.put, List.setIfInBounds_toArray, List.set_cons_zero, List.set_cons_succ]
            refine' wpAnyZ_takeA (i := 10) (v := ?_) (opAt rfl) (by kernel_rfl) (by kernel_rfl) (by kernel_rfl) (by kernel_rfl) (fun _ _ _ h => h) (by assumption) (by rfl) (fun w hSw => ?_) ?_
            rotate_left
            · (try dsimp only at hSw); go_simp; (try with_reducible rfl)
            try simp only [Act.put, List.setIfInBounds_toArray, List.set_cons_zero, List.set_cons_succ]
            refine' wpAnyZ_takeA (i := 11) (v := ?_) (opAt rfl) (by kernel_rfl) (by kernel_rfl) (by kernel_rfl) (by kernel_rfl) (fun _ _ _ h => h) (by assumption) (by rfl) (fun w hSw => ?_) ?_
            rotate_left
            · (try dsimp only at hSw); go_simp; (try with_reducible rfl)
            try simp only [Act.put, List.setIfInBounds_toArray, List.set_cons_zero, List.set_cons_succ]
            refine' wpAnyZ_takeA (i := 12) (v := ?_) (opAt rfl) (by kernel_rfl) (by kernel_rfl) (by kernel_rfl) (by kernel_rfl) (fun _ _ _ h => h) (by assumption) (by rfl) (fun w hSw => ?_) ?_
            rotate_left
            · (try dsimp only at hSw); go_simp; (try with_reducible rfl)
            try simp only [Act.put, List.setIfInBounds_toArray, List.set_cons_zero, List.set_cons_succ]
            refine' wpAnyZ_takeA (i := 13) (v := ?_) (opAt rfl) (by kernel_rfl) (by kernel_rfl) (by kernel_rfl) (by kernel_rfl) (fun _ _ _ h => h) (by assumption) (by rfl) (fun w hSw => ?_) ?_
            rotate_left
            · (try dsimp only at hSw); go_simp; (try with_reducible rfl)
            try simp only [Act.put, List.setIfInBounds_toArray, List.set_cons_zero, List.set_cons_succ]
            refine' wpAnyZ_takeA (i := 14) (v := ?_) (opAt rfl) (by kernel_rfl) (by kernel_rfl) (by kernel_rfl) (by kernel_rfl) (fun _ _ _ h => h) (by assumption) (by rfl) (fun w hSw => ?_) ?_
            rotate_left
            · (try dsimp only at hSw); go_simp; (try with_reducible rfl)
            try simp only [Act.put, List.setIfInBounds_toArray, List.set_cons_zero, List.set_cons_succ]
            refine wpAnyZ_ready (rs := [7]) (by kernel_rfl) (by simp) ?_
            refine AllReadyZ.cons (opAt rfl) (fun K hK => ?_) ?_
            · skip
              go_simp
              refine (N1.out _).mono ?_
              rintro e w7 ⟨rfl, hb1⟩
              replace bnx := bnx.below hb1 bnx.lt
              replace z1 := keepCell hb1 z1
              replace z2 := keepCell hb1 z2
              replace Bq := Bq.trans (hb1.mono (by have h1 := Bq.size; have h2 := HG4.out; omega))
              clear hb1
              try go_wp2_with fail
              refine hK.out _ _ (by exact ⟨bnx.cell 1, bnx.cell 2, z1, z2⟩) (fun hHeld => ?_)
              clear hK K
              try simp only [Act.put, List.setIfInBounds_toArray, List.set_cons_zero, List.set_cons_succ]
              refine' wpAnyZ_takeA (i := 8) (v := ?_) (opAt rfl) (by kernel_rfl) (by kernel_rfl) (by kernel_rfl) (by kernel_rfl) (fun _ _ _ h => h) (by assumption) (by rfl) (fun w hSw => ?_) ?_
              rotate_left
              · (try dsimp only at hSw); go_simp; (try rw [if_neg (by omega)]); (try with_reducible rfl)
              try simp only [Act.put, List.setIfInBounds_toArray, List.set_cons_zero, List.set_cons_succ]
              refine' wpAnyZ_takeA (i := 9) (v := ?_) (opAt rfl) (by kernel_rfl) (by kernel_rfl) (by kernel_rfl) (by kernel_rfl) (fun _ _ _ h => h) (by assumption) (by rfl) (fun w hSw => ?_) ?_
              rotate_left
              · (try dsimp only at hSw); go_simp; (try rw [if_neg (by omega)]); (try with_reducible rfl)
              try simp only [Act.put, List.setIfInBounds_toArray, List.set_cons_zero, List.set_cons_succ]
              refine wpAnyZ_ready (rs := [15]) (by kernel_rfl) (by simp) ?_
              refine AllReadyZ.cons (opAt rfl) (fun K hK => ?_) ?_
              · skip
                go_simp
                refine (N2.out _).mono ?_
                rintro e w8 ⟨rfl, hb1⟩
                replace bnx := bnx.below hb1 bnx.lt
                replace z1 := keepCell hb1 z1
                replace z2 := keepCell hb1 z2
                replace Bq := Bq.trans (hb1.mono (by have h1 := Bq.size; have h2 := HG4.out; omega))
                clear hb1
                try go_wp2_with fail
                refine hK.out _ _ (by exact ⟨bnx.cell 1, bnx.cell 2, z1, z2⟩) (fun hHeld => ?_)
                clear hK K
                try simp only [Act.put, List.setIfInBounds_toArray, List.set_cons_zero, List.set_cons_succ]
                refine' wpAnyZ_takeA (i := 16) (v := ?_) (opAt rfl) (by kernel_rfl) (by kernel_rfl) (by kernel_rfl) (by kernel_rfl) (fun _ _ _ h => h) (by assumption) (by rfl) (fun w hSw => ?_) ?_
                rotate_left
                · (try dsimp only at hSw); go_simp; (try rw [if_neg (by omega)]); (try with_reducible rfl)
                try simp only [Act.put, List.setIfInBounds_toArray, List.set_cons_zero, List.set_cons_succ]
                refine' wpAnyZ_takeA (i := 17) (v := ?_) (opAt rfl) (by kernel_rfl) (by kernel_rfl) (by kernel_rfl) (by kernel_rfl) (fun _ _ _ h => h) (by assumption) (by rfl) (fun w hSw => ?_) ?_
                rotate_left
                · (try dsimp only at hSw); go_simp; (try with_reducible rfl)
                try simp only [Act.put, List.setIfInBounds_toArray, List.set_cons_zero, List.set_cons_succ]
                refine wpAnyZ_done (by kernel_rfl) ?_ _
                go_wp2_with fail
                go_roundw
                case rel => exact ⟨j + 1, by go_num, by omega, by rw [HEW.out], Bq⟩
                case measure => simp [intOf]; omega
              exact AllReadyZ.nil
            exact AllReadyZ.nil
          · obtain rfl : j = N := by omega
            have hge : ¬ (j : Int) < (vs.length : Int) := by have := HN.out; omega
            have hge2 : vs.length ≤ j := by have := HN.out; omega
            by_cases hl0 : lk = 0
            · subst hl0
              have HE := hide (show R0 = joinT (wC W0 false ks vs j) by rw [E.out, HN.out]; simp)
              generalize joinT (wC W0 false ks vs j) = acc at *
              go_wp2_with fail
              go_ret
              exact ⟨by rw [HE.out]; rfl, HB0.out.trans (Bq.mono (by rw [← HG4.out]; exact HB0.out.size))⟩
            · have HE := hide (show R0 = joinT (wC W0 false ks vs j) ++ ⟨#[32, 110, 101, 120, 116, 32]⟩ ++ htx lk by rw [E.out, HN.out, if_pos (by simp [hl0]), show wC W0 false ks vs j ++ [nextB, htx lk] = (wC W0 false ks vs j ++ [nextB]) ++ [htx lk] by simp, joinT_app1 (by simp), joinT_app1 hJNE, sp_next]; simp only [ba_assoc])
              have HTL := hide (fun w2 => rhtext_any lk w2 HLK.out)
              have s6 := htx_size lk
              have q0 : (lk == 0) = false := by simp [hl0]
              clear hl0 hJNE
              generalize joinT (wC W0 false ks vs j) = acc at *
              generalize htx lk = tl at *
              go_wp2_with fail
              refine (HTL.out _).mono ?_
              rintro e w7 ⟨rfl, hb1⟩
              replace Bq := Bq.trans (hb1.mono (by have h1 := Bq.size; have h2 := HG4.out; omega))
              clear hb1
              go_wp2_with fail
              go_ret
              exact ⟨by rw [HE.out]; rfl, HB0.out.trans (Bq.mono (by rw [← HG4.out]; exact HB0.out.size))⟩
end Go.Proofs.YtlnckjemfabckaaGreatDoor

/-
  dump.lines.
-/
namespace Go.Proofs.YtlnckjemfabckaaGreatDoor
open Go.RowKit

section
variable {T e : TypeId} {B b : Nat} {p : Value} {bs : List Value} {w w' : World}
theorem builderAt_below (h : Lib.BuilderAtF T e B b p bs w) (hb : Below w.heap.size w w') : Lib.BuilderAtF T e B b p bs w' := by
  have hlt := h.lt
  obtain ⟨hB, v, hbk, hown, hne⟩ := h
  exact ⟨hB, v, (hb.block b hlt).trans hbk, hown.kept (row := none) ⟨hb.os, hb.tape, hb.output, hb.size, fun k hk _ => hb.block k hk⟩ (by cases hv : v.ownBlock <;> simp), hne⟩
theorem builder_below (h : Lib.IsBuilderF T e B b bs w) (hb : Below w.heap.size w w') : Lib.IsBuilderF T e B b bs w' := h.elim (fun x => .inl (builderAt_below x hb)) (fun x => .inr (builderAt_below x hb))
theorem builder_lt (h : Lib.IsBuilderF T e B b bs w) : b < w.heap.size := h.elim (fun x => x.lt) (fun x => x.lt)
end
theorem strCells_app (a b : ByteArray) : Lib.strCells (a ++ b) = Lib.strCells a ++ Lib.strCells b := by simp [Lib.strCells]
theorem take_snoc {α : Type} {l : List α} {j : Nat} {x : α} (h : l[j]? = some x) : l.take (j + 1) = l.take j ++ [x] := by
  rw [List.take_add_one, h]
  rfl
theorem StepR.cells_len (s : StepR) : (StepR.cells s).length = 7 := rfl
def LnI (g N : Nat) (ts : List ByteArray) (w : World) (v10 : Value) (wr : World) : Prop :=
  ∃ (j : Nat), v10 = .int .i64 j ∧ j ≤ N ∧ Lib.IsBuilderF 120 5 g g (Lib.strCells (linesT (ts.take j))) wr ∧ Below g w wr
theorem int_cells_len (x : Int) : [Value.int .i64 x].length = 1 := rfl
set_option maxRecDepth 100000 in
set_option maxHeartbeats 4000000 in
theorem lines_int (A : Option Addr) (n c : Nat) (l : List Int) (text : Int → ByteArray) (bx : Nat) (w : World) (hr : Reads w w.heap.size 1 A n (l.flatMap (fun x => [Value.int .i64 x]))) (hn : n ≤ 5000)
    (LN : ∀ s ∈ l, ∀ w2, Below w.heap.size w w2 → Calls Tryz.prog 57 #[.int .i64 s, .pointer (some ⟨bx, 0, none⟩)] w2 fun e w' => e = .returned (.string (text s)) ∧ Below w2.heap.size w2 w') (hs : ∀ s ∈ l, (text s).size ≤ 20000) :
    Calls Tryz.prog 55 #[.slice A n c, .func (.func 57) #[] #[.pointer (some ⟨bx, 0, none⟩)]] w fun e w' => e = .returned (.string (linesT (l.map (text)))) ∧ Below w.heap.size w w' := by
  have hl : l.length = n := hr.lenRec int_cells_len (by omega)
  have HL := hide hl
  have HR := hide hr
  have HLN := hide LN
  have HS := hide hs
  have hcf : ∀ args w', (callFunc 57 args).run Tryz.prog w' = .ok (.enter 57 args) w' := fun args w' => run_enter Tryz.func57 (by decide) (by simp [Tryz.f57]) args w'
  obtain ⟨ts, hts⟩ : ∃ ts, ts = l.map (text) := ⟨_, rfl⟩
  have HTS := hide hts
  have HZ := hide (fun j : Nat => linesT_size 20000 (ts.take j) (fun x hx => by
    rw [hts] at hx
    obtain ⟨s, h1, rfl⟩ := List.mem_map.1 (List.mem_of_mem_take hx)
    exact hs s h1))
  have HTL := hide (show ts.length = n by rw [hts, List.length_map, hl])
  rw [← hts]
  clear hts hl hr LN hs
  go_enter Tryz.func55, Tryz.ntmps55
  go_wp2_with fail
  go_loopw [10] (LnI w.heap.size n ts w) (fun v _ => n - (intOf v).toNat)
  case atStart => exact ⟨0, rfl, by omega, Lib.IsBuilderF.of (Lib.fresh_isBuilder 120 5 w), (Below.refl _ w).alloc (Nat.le_refl _) _⟩
  case round =>
    obtain ⟨j, rfl, hj, IB, B0⟩ := hrel
    have hlt0 := builder_lt IB
    generalize hgw : w.heap.size = g at *
    have HGW := hide hgw
    clear hgw
    by_cases hlt : j < n
    · obtain ⟨ad, s, hA, hab, hsj, z0, zz⟩ := (HR.out.below B0).recAt int_cells_len (by omega) hlt
      clear zz hab
      subst hA
      have hmem := List.mem_of_getElem? hsj
      have LNs := hide (HLN.out s hmem)
      have s7 := HS.out s hmem
      have htj : ts[j]? = some (text s) := by rw [HTS.out, List.getElem?_map, hsj]; rfl
      have HSN := hide (show linesT (ts.take (j + 1)) = linesT (ts.take j) ++ _ ++ nl1 from by rw [take_snoc htj, linesT_snoc])
      have hz := HZ.out j
      have hzl : (ts.take j).length ≤ 5000 := by rw [List.length_take, HTL.out]; omega
      have HLEN := hide (show (Lib.strCells (linesT (ts.take j))).length + (text s ++ nl1).size ≤ 140737488355328 from by rw [Lib.strCells_length, ba_size]; have h1 : nl1.size = 1 := rfl; have hz2 := Nat.mul_le_mul_right (20000 + 1) hzl; omega)
      clear hz hzl
      generalize text s = tx at *
      clear hmem hsj htj
      replace z0 : wr.cell? (ad.add j) = some (.int .i64 s) := by rw [Nat.mul_one] at z0; exact z0
      have LN2 := hide (show ∀ w2, Below g w w2 → Calls Tryz.prog 57 #[.int .i64 s, .pointer (some ⟨bx, 0, none⟩)] w2 fun e w' => e = .returned (.string tx) ∧ Below w2.heap.size w2 w' from LNs.out)
      skip
      skip
      clear LNs hlt0
      have hltz : (j : Int) < (n : Int) := by omega
      go_wp2_with fail
      refine (LN2.out _ B0).mono ?_
      rintro e w7 ⟨rfl, hb1⟩
      replace B0 := B0.trans (hb1.mono (Nat.le_of_lt (builder_lt IB)))
      replace IB := builder_below IB hb1
      have hlt0 := builder_lt IB
      clear hb1 z0
      go_wp2_with fail
      have BW := hide (bwrite_any g g _ (tx ++ nl1) w7 IB HLEN.out (Nat.le_of_lt hlt0))
      rw [show nl1 = ⟨#[10]⟩ from rfl] at BW
      generalize hLC : Lib.strCells (linesT (ts.take j)) = lc at *
      have HLC := hide hLC
      clear hLC
      refine (BW.out).mono ?_
      rintro e w8 ⟨rfl, h1, hb1, _⟩
      replace B0 := B0.trans hb1
      rw [← HLC.out, ← strCells_app, ← ba_assoc, show (⟨#[10]⟩ : ByteArray) = nl1 from rfl] at h1
      have HT := hide h1
      clear h1 hb1 IB
      go_wp2_with fail
      go_roundw
      case rel => exact ⟨j + 1, by go_num, by omega, Or.inr (by rw [HSN.out]; exact HT.out), B0⟩
      case measure => simp [intOf]; omega
    · obtain rfl : j = n := by omega
      have htk : ts.take j = ts := List.take_of_length_le (by rw [HTL.out]; exact Nat.le_refl _)
      rw [htk] at IB
      rw [Lib.strCells_eq] at IB
      have BS := hide (bstring_any g g (linesT ts).data.toList wr IB (Nat.le_of_lt hlt0))
      rw [ba_self] at BS
      clear htk IB
      generalize hQ : linesT ts = Q at *
      have HQ := hide hQ
      clear hQ
      go_wp2_with fail
      refine (BS.out).mono ?_
      rintro e w9 ⟨rfl, hb1⟩
      go_wp2_with fail
      go_ret
      exact ⟨by rw [HQ.out]; rfl, by rw [HGW.out]; exact B0.trans hb1⟩
end Go.Proofs.YtlnckjemfabckaaGreatDoor

