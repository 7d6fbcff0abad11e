/-
  arena.New: the memory of a machine that begins holds the document's words.
-/
import Derived.Test.YtlnckjemfabckaaDoorZ2
import Derived.Maps.Own
import Derived.Maps.OwnOps
import Derived.Maps.Views
import Derived.WalkSpells
import Derived.Deep.QuietTactic
import Derived.BigQuiet
import Derived.Deep.LoopGhost
import Derived.Deep.RegionWith
import Derived.Deep.RegionHeld3
import Derived.Deep.DeepCutAuto
import Derived.Shelf.Abstract
import Derived.RangeFuncBox
import Derived.RangeFuncLeaves
import Derived.RangeFuncNested
import Derived.WalkKit
import Derived.OwnWalkIn
import Derived.TacticsInMore
import Derived.LoopNIn
import Derived.LoopIn
import Derived.Maps.AppendAt
import Derived.CallsIn
namespace Go.Proofs.YtlnckjemfabckaaDoor
open Go.RowKit

/-- The slots above k are laid. -/
def dOR (s f k o r : Int) : Int :=
  if o = 0 ∧ r = 1 then 3 else if o = 0 ∧ r = 3 + f then 65537 else if o = 1 ∧ r = 0 then 1099511627776
  else if 2 ≤ o ∧ k < o ∧ o ≤ s ∧ r = 0 then 2 else if 2 ≤ o ∧ k < o ∧ o < s ∧ r = 2 then o + 1 else 0
def dK (s t f k j : Int) : Int := dOR s f k (oOf t f j) (rOf t f j)
def BegD (s t f k : Int) (ws : List Int) : Prop := ∀ j : Nat, j < ws.length → ws.getD j 0 = dK s t f k j
theorem dK_top (s t f j : Int) : dK s t f s j = bK s t f 2 j := by
  unfold dK bK dOR bOR
  generalize oOf t f j = o
  generalize rOf t f j = r
  repeat' split
  all_goals first | rfl | omega
theorem dK_low (s t f j : Int) : dK s t f 1 j = bK s t f (s + 1) j := by
  unfold dK bK dOR bOR
  generalize oOf t f j = o
  generalize rOf t f j = r
  repeat' split
  all_goals first | rfl | omega
theorem dK_step {s t f k j : Int} (hf : 4 ≤ f) (hk : 2 ≤ k) (hks : k ≤ s) : dK s t f (k - 1) j = if j = nB t f k + 2 then (if k < s then k + 1 else 0) else if j = nB t f k then 2 else dK s t f k j := by
  have h1 := at_or (t := t) (f := f) (j := j) (k := k) (c := 0) (by omega) (by omega)
  have h2 := at_or (t := t) (f := f) (j := j) (k := k) (c := 2) (by omega) (by omega)
  rw [Int.add_zero] at h1
  unfold dK dOR
  simp only [h1, h2]
  generalize oOf t f j = o
  generalize rOf t f j = r
  repeat' split
  all_goals first | rfl | omega
theorem wPut_set {ws : List Int} {p : Nat} (h : p < ws.length) (x : Int) : wPut ws p x = ws.set p x := by
  unfold wPut
  rw [if_pos (by omega)]
  rfl
theorem begD_step {s t f k : Int} {ws : List Int} {q : Nat} (hf : 4 ≤ f) (hk : 2 ≤ k) (hks : k ≤ s) (hq : nB t f k = q) (hl : q + 2 < ws.length) (h : BegD s t f k ws) : BegD s t f (k - 1) (wPut (wPut ws q 2) ((q + 2 : Nat) : Int) (if k < s then k + 1 else 0)) := by
  rw [wPut_set (ws := ws) (p := q) (by omega), wPut_set (ws := ws.set q 2) (p := q + 2) (by rw [List.length_set]; exact hl)]
  intro j hj
  rw [List.length_set, List.length_set] at hj
  rw [getD_set _ _ _ _ (by rw [List.length_set]; exact hl), getD_set _ _ _ _ (by omega), dK_step hf hk hks, h j hj, hq]
  have e1 : (j = q + 2) ↔ (j : Int) = (q : Int) + 2 := by omega
  have e2 : (j = q) ↔ (j : Int) = (q : Int) := by omega
  simp only [e1, e2]
theorem begD_end {s t f : Int} {ws : List Int} (hN : ws.length = (laySize s t f).toNat) (h2 : 2 < ws.length) (h : BegD s t f 1 ws) : wPut ws 2 (if 2 ≤ s then 2 else 0) = begL s t f := by
  rw [show (2 : Int) = ((2 : Nat) : Int) from rfl, wPut_set h2]
  refine begL_of (by rw [List.length_set]; exact hN) fun j hj => ?_
  rw [List.length_set] at hj
  rw [getD_set _ _ _ _ h2, h j hj, dK_low]
  unfold begAt
  by_cases hj2 : j = 2
  · rw [if_pos hj2, if_pos (show (j : Int) = 2 by omega)]
    rfl
  · rw [if_neg hj2, if_neg (by omega)]
theorem mem5 {w : World} {gm gw : Nat} {s t f l p : Int} {ws : List Int} (h : MemOk w gm gw s t f l p ws) : w.cell? ⟨gm, 0, none⟩ = some (.int .i64 s) ∧ w.cell? ⟨gm, 1, none⟩ = some (.int .i64 t) ∧ w.cell? ⟨gm, 2, none⟩ = some (.int .i64 f) ∧ w.cell? ⟨gm, 3, none⟩ = some (.int .i64 l) ∧ w.cell? ⟨gm, 4, none⟩ = some (.int .i64 p) :=
  ⟨h.1.cell 0, h.1.cell 1, h.1.cell 2, h.1.cell 3, h.1.cell 4⟩
def AnIn (gm gw gc N : Nat) (s t f l p : Int) (w : World) (fi i : Value) (wr : World) : Prop :=
  ∃ (k fr : Int) (ws : List Int), i = .int .i64 k ∧ fi = .int .i64 fr ∧ 1 ≤ k ∧ k ≤ s ∧ fr = (if k < s then k + 1 else 0) ∧ MemOk wr gm gw s t f l p ws ∧ ws.length = N ∧ BegD s t f k ws ∧ Blk wr gc 39 #[.int .i64 s, .int .i64 t, .int .i64 f, .int .i64 l, .int .i64 p] ∧ Below w.heap.size w wr
theorem MemOk.drew {w : World} {gm gw : Nat} {s t f l p : Int} {ws : List Int} (h : MemOk w gm gw s t f l p ws) : MemOk w.drew gm gw s t f l p ws := ⟨h.1.drew, Blk.drew h.2.1, h.2.2⟩
set_option maxRecDepth 100000 in
set_option maxHeartbeats 4000000 in
theorem anew10_yes (s t f l p : Int) (N : Nat) (w : World) (hT : Tab w) (hc : cfgOk s t f l p = true) (hN : laySize s t f = N) :
    Calls Tryd.prog 10 #[.agg #[.int .i64 s, .int .i64 t, .int .i64 f, .int .i64 l, .int .i64 p]] w fun e w' => (∃ gm gw, e = .returned (.pointer (some ⟨gm, 0, none⟩)) ∧ MemOk w' gm gw s t f l p (begL s t f) ∧ w.heap.size ≤ gm ∧ w.heap.size ≤ gw) ∧ Below w.heap.size w w' := by
  have hb := cfgOk_iff.1 hc
  have hs : 1 ≤ s ∧ s ≤ 1000 := by omega
  have ht : 1 ≤ t ∧ t ≤ 64 := by omega
  have hf : 4 ≤ f ∧ f ≤ 64 := by omega
  have hsp := size_pos hs ht hf
  have b0 := nB_bd hs ht hf (sl := 0) (by omega)
  have b1 := nB_bd hs ht hf (sl := 1) (by omega)
  obtain ⟨p1, hp1⟩ : ∃ p1 : Nat, nB t f 0 + 1 = p1 := Int.eq_ofNat_of_zero_le (by omega)
  obtain ⟨p2, hp2⟩ : ∃ p2 : Nat, nB t f 0 + 3 + f = p2 := Int.eq_ofNat_of_zero_le (by omega)
  obtain ⟨p3, hp3⟩ : ∃ p3 : Nat, nB t f 1 = p3 := Int.eq_ofNat_of_zero_le (by omega)
  have MN := hide (fun w2 hb => mnew_yes s t f l p N w2 (hT.below hb) hc hN)
  have C1 := hide (fun w2 => lshp_any s t f l p 0 w2 hs ht hf)
  have C2 := hide (fun w2 => pack_any true 1 w2 ⟨by omega, by omega⟩)
  have C3 := hide (fun w2 => lval_any s t f l p 0 0 w2 hs ht hf)
  have C4 := hide (fun w2 => hnmake_any 1 1 w2 ⟨by omega, by omega⟩ ⟨by omega, by omega⟩)
  have C5 := hide (fun w2 => lver_any s t f l p 1 w2 hs ht hf)
  have C6 := hide (fun w2 => vmake_any 1 0 false false w2 ⟨by omega, by omega⟩ ⟨by omega, by omega⟩)
  rw [atpB_7 (by omega), hp1] at C1
  rw [show pk true 1 = 3 by rfl] at C2
  rw [atpB_10 (by omega) (by omega), show nB t f 0 + 3 + f + 0 = nB t f 0 + 3 + f by omega, hp2] at C3
  rw [show hmk 1 1 = 65537 by rfl] at C4
  rw [atpB_6 (by omega), hp3] at C5
  rw [show vpack 1 0 false false = 1099511627776 by rfl] at C6
  have CV := hide (fun (k : Int) (h1 : 2 ≤ k) (h2 : k ≤ s) (q : Nat) (hq : nB t f k = q) w2 => by have h := lver_any s t f l p k w2 hs ht hf; rw [atpB_6 (by omega), hq] at h; exact h)
  have CK := hide (fun (k : Int) (h1 : 2 ≤ k) (h2 : k ≤ s) (q : Nat) (hq : nB t f k = q) w2 => by have h := llnk_any s t f l p k w2 hs ht hf; rw [atpB_8 (by omega), hq] at h; exact h)
  have C7 := hide (fun w2 => vmake_any 0 0 true false w2 ⟨by omega, by omega⟩ ⟨by omega, by omega⟩)
  rw [show vpack 0 0 true false = 2 by rfl] at C7
  have C8 := hide (fun w2 => at_any s t f l p 3 0 0 w2 hs ht hf)
  rw [atp_first (by omega), show (3 : Int) - 1 = 2 by rfl] at C8
  have BG := hide (begK_zs s t f N p1 p2 p3 hp1.symm hp2.symm hp3.symm (by omega) (by omega))
  have HP := hide (show p1 < N ∧ p2 < N ∧ p3 < N by omega)
  have HNN := hide hN
  have HB := hide hb
  have HT := hide hT
  clear hp1 hp2 hp3 hN hb hc b0 b1 hsp hT
  have B0 := (Below.refl w.heap.size w).alloc (Nat.le_refl _) (.cells #[.int .i64 s, .int .i64 t, .int .i64 f, .int .i64 l, .int .i64 p] 39)
  have bc := Blk.new w 39 #[.int .i64 s, .int .i64 t, .int .i64 f, .int .i64 l, .int .i64 p]
  have mc := fun i => bc.cell i
  go_enter Tryd.func10, Tryd.ntmps10
  go_wp2_with fail
  refine (MN.out _ B0).mono ?_
  rintro e w1 ⟨⟨gm, gw, rfl, M, hg1, hg2⟩, hb1⟩
  have HGM := hide (Nat.le_trans B0.size hg1)
  have HGW := hide (Nat.le_trans B0.size hg2)
  have HCG := hide (show some w.heap.size ≠ some gw from fun e => by have h1 := bc.lt; injection e with e; omega)
  replace bc := bc.below hb1 bc.lt
  replace B0 := B0.trans (hb1.mono B0.size)
  clear hb1 mc hg1 hg2
  go_wp2_with fail
  refine wp_region_heldZ [23] (fun w' => w'.cell? ⟨gm, 0, none⟩ = some (.int .i64 s) ∧ w'.cell? ⟨gm, 1, none⟩ = some (.int .i64 t) ∧ w'.cell? ⟨gm, 2, none⟩ = some (.int .i64 f) ∧ w'.cell? ⟨gm, 3, none⟩ = some (.int .i64 l) ∧ w'.cell? ⟨gm, 4, none⟩ = some (.int .i64 p)) (by kernel_rfl) (by exact mem5 M) (fun hHeld => ?_)
  replace M := M.drew
  replace bc := bc.drew
  replace B0 := B0.drew
  generalize w1.drew = w1x at *
  refine' wpAnyZ_takeA (i := 0) (v := ?_) (opAt rfl) (by kernel_rfl) (by kernel_rfl) (by kernel_rfl) (by kernel_rfl) (fun _ _ _ h => h) (by assumption) (by rfl) (fun w hSw => ?_) ?_
  rotate_left
  · (try dsimp only at hSw); go_simp; (try with_reducible rfl)
  try simp only [Act.put, List.setIfInBounds_toArray, List.set_cons_zero, List.set_cons_succ]
  refine' wpAnyZ_takeA (i := 1) (v := ?_) (opAt rfl) (by kernel_rfl) (by kernel_rfl) (by kernel_rfl) (by kernel_rfl) (fun _ _ _ h => h) (by assumption) (by rfl) (fun w hSw => ?_) ?_
  rotate_left
  · (try dsimp only at hSw); go_simp; (try with_reducible rfl)
  try simp only [Act.put, List.setIfInBounds_toArray, List.set_cons_zero, List.set_cons_succ]
  refine' wpAnyZ_takeA (i := 2) (v := ?_) (opAt rfl) (by kernel_rfl) (by kernel_rfl) (by kernel_rfl) (by kernel_rfl) (fun _ _ _ h => h) (by assumption) (by rfl) (fun w hSw => ?_) ?_
  rotate_left
  · (try dsimp only at hSw); go_simp; (try with_reducible rfl)
  try simp only [Act.put, List.setIfInBounds_toArray, List.set_cons_zero, List.set_cons_succ]
  refine' wpAnyZ_takeA (i := 3) (v := ?_) (opAt rfl) (by kernel_rfl) (by kernel_rfl) (by kernel_rfl) (by kernel_rfl) (fun _ _ _ h => h) (by assumption) (by rfl) (fun w hSw => ?_) ?_
  rotate_left
  · (try dsimp only at hSw); go_simp; (try with_reducible rfl)
  try simp only [Act.put, List.setIfInBounds_toArray, List.set_cons_zero, List.set_cons_succ]
  refine' wpAnyZ_takeA (i := 4) (v := ?_) (opAt rfl) (by kernel_rfl) (by kernel_rfl) (by kernel_rfl) (by kernel_rfl) (fun _ _ _ h => h) (by assumption) (by rfl) (fun w hSw => ?_) ?_
  rotate_left
  · (try dsimp only at hSw); go_simp; (try with_reducible rfl)
  try simp only [Act.put, List.setIfInBounds_toArray, List.set_cons_zero, List.set_cons_succ]
  refine' wpAnyZ_takeA (i := 8) (v := ?_) (opAt rfl) (by kernel_rfl) (by kernel_rfl) (by kernel_rfl) (by kernel_rfl) (fun _ _ _ h => h) (by assumption) (by rfl) (fun w hSw => ?_) ?_
  rotate_left
  · (try dsimp only at hSw); go_simp; (try with_reducible rfl)
  try simp only [Act.put, List.setIfInBounds_toArray, List.set_cons_zero, List.set_cons_succ]
  refine' wpAnyZ_takeA (i := 9) (v := ?_) (opAt rfl) (by kernel_rfl) (by kernel_rfl) (by kernel_rfl) (by kernel_rfl) (fun _ _ _ h => h) (by assumption) (by rfl) (fun w hSw => ?_) ?_
  rotate_left
  · (try dsimp only at hSw); go_simp; (try with_reducible rfl)
  try simp only [Act.put, List.setIfInBounds_toArray, List.set_cons_zero, List.set_cons_succ]
  refine' wpAnyZ_takeA (i := 10) (v := ?_) (opAt rfl) (by kernel_rfl) (by kernel_rfl) (by kernel_rfl) (by kernel_rfl) (fun _ _ _ h => h) (by assumption) (by rfl) (fun w hSw => ?_) ?_
  rotate_left
  · (try dsimp only at hSw); go_simp; (try with_reducible rfl)
  try simp only [Act.put, List.setIfInBounds_toArray, List.set_cons_zero, List.set_cons_succ]
  refine' wpAnyZ_takeA (i := 11) (v := ?_) (opAt rfl) (by kernel_rfl) (by kernel_rfl) (by kernel_rfl) (by kernel_rfl) (fun _ _ _ h => h) (by assumption) (by rfl) (fun w hSw => ?_) ?_
  rotate_left
  · (try dsimp only at hSw); go_simp; (try with_reducible rfl)
  try simp only [Act.put, List.setIfInBounds_toArray, List.set_cons_zero, List.set_cons_succ]
  refine' wpAnyZ_takeA (i := 15) (v := ?_) (opAt rfl) (by kernel_rfl) (by kernel_rfl) (by kernel_rfl) (by kernel_rfl) (fun _ _ _ h => h) (by assumption) (by rfl) (fun w hSw => ?_) ?_
  rotate_left
  · (try dsimp only at hSw); go_simp; (try with_reducible rfl)
  try simp only [Act.put, List.setIfInBounds_toArray, List.set_cons_zero, List.set_cons_succ]
  refine' wpAnyZ_takeA (i := 16) (v := ?_) (opAt rfl) (by kernel_rfl) (by kernel_rfl) (by kernel_rfl) (by kernel_rfl) (fun _ _ _ h => h) (by assumption) (by rfl) (fun w hSw => ?_) ?_
  rotate_left
  · (try dsimp only at hSw); go_simp; (try with_reducible rfl)
  try simp only [Act.put, List.setIfInBounds_toArray, List.set_cons_zero, List.set_cons_succ]
  refine' wpAnyZ_takeA (i := 17) (v := ?_) (opAt rfl) (by kernel_rfl) (by kernel_rfl) (by kernel_rfl) (by kernel_rfl) (fun _ _ _ h => h) (by assumption) (by rfl) (fun w hSw => ?_) ?_
  rotate_left
  · (try dsimp only at hSw); go_simp; (try with_reducible rfl)
  try simp only [Act.put, List.setIfInBounds_toArray, List.set_cons_zero, List.set_cons_succ]
  refine' wpAnyZ_takeA (i := 18) (v := ?_) (opAt rfl) (by kernel_rfl) (by kernel_rfl) (by kernel_rfl) (by kernel_rfl) (fun _ _ _ h => h) (by assumption) (by rfl) (fun w hSw => ?_) ?_
  rotate_left
  · (try dsimp only at hSw); go_simp; (try with_reducible rfl)
  try simp only [Act.put, List.setIfInBounds_toArray, List.set_cons_zero, List.set_cons_succ]
  refine wpAnyZ_ready (rs := [5]) (by kernel_rfl) (by simp) ?_
  refine AllReadyZ.cons (opAt rfl) (fun K hK => ?_) ?_
  · skip
    go_simp
    refine (C1.out _).mono ?_
    rintro e w2 ⟨rfl, hb1⟩
    replace M := M.below hb1
    replace bc := bc.below hb1 bc.lt
    replace B0 := B0.trans (hb1.mono B0.size)
    clear hb1
    try go_wp2_with fail
    refine hK.out _ _ (by exact mem5 M) (fun hHeld => ?_)
    clear hK K
    try simp only [Act.put, List.setIfInBounds_toArray, List.set_cons_zero, List.set_cons_succ]
    refine wpAnyZ_ready (rs := [6]) (by kernel_rfl) (by simp) ?_
    refine AllReadyZ.cons (opAt rfl) (fun K hK => ?_) ?_
    · skip
      go_simp
      refine (C2.out _).mono ?_
      rintro e w2x ⟨rfl, rfl⟩
      try go_wp2_with fail
      refine hK.out _ _ (by exact mem5 M) (fun hHeld => ?_)
      clear hK K
      try simp only [Act.put, List.setIfInBounds_toArray, List.set_cons_zero, List.set_cons_succ]
      refine' wpAnyZ_takeA (i := 7) (v := ?_) (opAt rfl) (by kernel_rfl) (by kernel_rfl) (by kernel_rfl) (by kernel_rfl) (fun _ _ _ h => h) (by assumption) (by rfl) (fun w hSw => ?_) ?_
      rotate_left
      · (try dsimp only at hSw); go_simp; (try with_reducible rfl)
      try simp only [Act.put, List.setIfInBounds_toArray, List.set_cons_zero, List.set_cons_succ]
      refine wpAnyZ_ready (rs := [12]) (by kernel_rfl) (by simp) ?_
      refine AllReadyZ.cons (opAt rfl) (fun K hK => ?_) ?_
      · skip
        go_simp
        refine (C3.out _).mono ?_
        rintro e w3 ⟨rfl, hb1⟩
        replace M := M.below hb1
        replace bc := bc.below hb1 bc.lt
        replace B0 := B0.trans (hb1.mono B0.size)
        clear hb1
        try go_wp2_with fail
        refine hK.out _ _ (by exact mem5 M) (fun hHeld => ?_)
        clear hK K
        try simp only [Act.put, List.setIfInBounds_toArray, List.set_cons_zero, List.set_cons_succ]
        refine wpAnyZ_ready (rs := [13]) (by kernel_rfl) (by simp) ?_
        refine AllReadyZ.cons (opAt rfl) (fun K hK => ?_) ?_
        · skip
          go_simp
          refine (C4.out _).mono ?_
          rintro e w3x ⟨rfl, rfl⟩
          try go_wp2_with fail
          refine hK.out _ _ (by exact mem5 M) (fun hHeld => ?_)
          clear hK K
          try simp only [Act.put, List.setIfInBounds_toArray, List.set_cons_zero, List.set_cons_succ]
          refine' wpAnyZ_takeA (i := 14) (v := ?_) (opAt rfl) (by kernel_rfl) (by kernel_rfl) (by kernel_rfl) (by kernel_rfl) (fun _ _ _ h => h) (by assumption) (by rfl) (fun w hSw => ?_) ?_
          rotate_left
          · (try dsimp only at hSw); go_simp; (try with_reducible rfl)
          try simp only [Act.put, List.setIfInBounds_toArray, List.set_cons_zero, List.set_cons_succ]
          refine wpAnyZ_ready (rs := [19]) (by kernel_rfl) (by simp) ?_
          refine AllReadyZ.cons (opAt rfl) (fun K hK => ?_) ?_
          · skip
            go_simp
            refine (C5.out _).mono ?_
            rintro e w4 ⟨rfl, hb1⟩
            replace M := M.below hb1
            replace bc := bc.below hb1 bc.lt
            replace B0 := B0.trans (hb1.mono B0.size)
            clear hb1
            try go_wp2_with fail
            refine hK.out _ _ (by exact mem5 M) (fun hHeld => ?_)
            clear hK K
            try simp only [Act.put, List.setIfInBounds_toArray, List.set_cons_zero, List.set_cons_succ]
            refine wpAnyZ_ready (rs := [20]) (by kernel_rfl) (by simp) ?_
            refine AllReadyZ.cons (opAt rfl) (fun K hK => ?_) ?_
            · skip
              go_simp
              refine (C6.out _).mono ?_
              rintro e w4x ⟨rfl, rfl⟩
              try go_wp2_with fail
              refine hK.out _ _ (by exact mem5 M) (fun hHeld => ?_)
              clear hK K
              try simp only [Act.put, List.setIfInBounds_toArray, List.set_cons_zero, List.set_cons_succ]
              refine' wpAnyZ_takeA (i := 21) (v := ?_) (opAt rfl) (by kernel_rfl) (by kernel_rfl) (by kernel_rfl) (by kernel_rfl) (fun _ _ _ h => h) (by assumption) (by rfl) (fun w hSw => ?_) ?_
              rotate_left
              · (try dsimp only at hSw); go_simp; (try with_reducible rfl)
              try simp only [Act.put, List.setIfInBounds_toArray, List.set_cons_zero, List.set_cons_succ]
              refine wpAnyZ_ready (rs := [22]) (by kernel_rfl) (by simp) ?_
              refine AllReadyZ.cons (opAt rfl) (fun K hK => ?_) ?_
              · skip
                go_simp
                have bl := Blk.new w4 57 #[.int .i64 p1, .int .u64 3, .int .i64 p2, .int .u64 65537, .int .i64 p3, .int .u64 1099511627776]
                have hrd := Reads.blk bl 3 2 rfl
                rw [show w4.heap.size + 1 = (w4.alloc (.cells #[.int .i64 p1, .int .u64 3, .int .i64 p2, .int .u64 65537, .int .i64 p3, .int .u64 1099511627776] 57)).heap.size by rw [World.size_alloc]] at hrd
                have HGL := hide (show w4.heap.size ≠ gw from fun e => by have h9 := Blk.lt M.2.1; omega)
                replace M := M.below ((Below.refl w4.heap.size w4).alloc (Nat.le_refl _) (.cells #[.int .i64 p1, .int .u64 3, .int .i64 p2, .int .u64 65537, .int .i64 p3, .int .u64 1099511627776] 57))
                replace bc := bc.alloc (.cells #[.int .i64 p1, .int .u64 3, .int .i64 p2, .int .u64 65537, .int .i64 p3, .int .u64 1099511627776] 57)
                replace B0 := B0.alloc B0.size (.cells #[.int .i64 p1, .int .u64 3, .int .i64 p2, .int .u64 65537, .int .i64 p3, .int .u64 1099511627776] 57)
                clear bl
                generalize w4.alloc (.cells #[.int .i64 p1, .int .u64 3, .int .i64 p2, .int .u64 65537, .int .i64 p3, .int .u64 1099511627776] 57) = w5 at *
                generalize w4.heap.size = gl at *
                refine hK.out _ _ (by exact mem5 M) (fun hHeld => ?_)
                clear hK K
                try simp only [Act.put, List.setIfInBounds_toArray, List.set_cons_zero, List.set_cons_succ]
                refine wpAnyZ_ready (rs := [23]) (by kernel_rfl) (by simp) ?_
                refine AllReadyZ.last (opAt rfl) (by kernel_rfl) (fun K hK => ?_) ?_
                · skip
                  go_simp
                  refine (write_any gm gw s t f l p (some ⟨gl, 0, none⟩) 3 3 (zs N) [((p1 : Nat), 3), ((p2 : Nat), 65537), ((p3 : Nat), 1099511627776)] _ M hrd (fun _ ad e => by injection e with e; subst e; exact HGL.out) (by decide)).mono ?_
                  rintro e w6 ⟨⟨v9, rfl⟩, M9, hg9⟩
                  replace M := M9
                  replace bc := bc.grown hg9 HCG.out
                  replace B0 := below_grown B0 hg9 HGW.out B0.size
                  clear M9 hg9 hrd HGL
                  try go_wp2_with fail
                  refine hK.out _ _ ?_
                  clear hK K
                  try simp only [Act.put, List.setIfInBounds_toArray, List.set_cons_zero, List.set_cons_succ]
                  refine wpAnyZ_done (by kernel_rfl) ?_ _
                  have hwz : BegD s t f s (mWri (zs N) [((p1 : Nat), 3), ((p2 : Nat), 65537), ((p3 : Nat), 1099511627776)] 3) := by
                    show BegD s t f s (wPut (wPut (wPut (zs N) p1 3) p2 65537) p3 1099511627776)
                    rw [wPut_set (ws := zs N) (p := p1) (by rw [zs_len]; exact HP.out.1), wPut_set (ws := (zs N).set p1 3) (p := p2) (by rw [List.length_set, zs_len]; exact HP.out.2.1), wPut_set (ws := ((zs N).set p1 3).set p2 65537) (p := p3) (by simp only [List.length_set, zs_len]; exact HP.out.2.2)]
                    intro j hj
                    rw [dK_top]
                    exact BG.out j hj
                  have hwl : (mWri (zs N) [((p1 : Nat), 3), ((p2 : Nat), 65537), ((p3 : Nat), 1099511627776)] 3).length = N := by rw [mWri_len, zs_len]
                  generalize mWri (zs N) [((p1 : Nat), 3), ((p2 : Nat), 65537), ((p3 : Nat), 1099511627776)] 3 = ws0 at *
                  clear BG HP C1 C2 C3 C4 C5 C6
                  have mc := fun i => bc.cell i
                  go_wp2_with fail
                  clear mc
                  go_loopw [4, 5] (AnIn gm gw w.heap.size N s t f l p w) (fun _ i _ => (intOf i).toNat)
                  case atStart => exact ⟨s, 0, ws0, rfl, rfl, by omega, by omega, by rw [if_neg (by omega)], M, hwl, hwz, bc, B0⟩
                  case round =>
                    clear M hwl hwz bc B0
                    obtain ⟨k, fr, ws, rfl, rfl, hk1, hks, hfr, M, hwl, hD, bc, B0⟩ := hrel
                    have HFR := hide hfr
                    have hfb : 0 ≤ fr ∧ fr ≤ 1001 := by rw [hfr]; split <;> omega
                    clear hfr
                    by_cases hk : 2 ≤ k
                    · have bk := nB_bd hs ht hf (sl := k) (by omega)
                      obtain ⟨q, hq⟩ : ∃ q : Nat, nB t f k = q := Int.eq_ofNat_of_zero_le (by omega)
                      have CVk := hide (CV.out k hk hks q hq)
                      have CLk := hide (CK.out k hk hks q hq)
                      rw [show (q : Int) + 2 = ((q + 2 : Nat) : Int) by omega] at CLk
                      have hqN : q + 2 < ws.length := by have := HNN.out; omega
                      have ST := hide (begD_step (by omega) hk hks hq hqN hD)
                      rw [← HFR.out] at ST
                      have hw1 : IntKind.u64.wrap fr = fr := IntWalk.u64_in _ (by omega)
                      have hw2 : IntKind.i64.wrap (k - 1) = k - 1 := IntWalk.i64_in _ (by omega)
                      have HK2 := hide (show k = if k - 1 < s then k - 1 + 1 else 0 by rw [if_pos (by omega)]; omega)
                      have HWL := hide hwl
                      clear bk hq hqN hD hwl
                      generalize q + 2 = q2 at *
                      go_wp2_with fail
                      refine wp_region_heldZ [19] (fun w' => w'.cell? ⟨gm, 0, none⟩ = some (.int .i64 s) ∧ w'.cell? ⟨gm, 1, none⟩ = some (.int .i64 t) ∧ w'.cell? ⟨gm, 2, none⟩ = some (.int .i64 f) ∧ w'.cell? ⟨gm, 3, none⟩ = some (.int .i64 l) ∧ w'.cell? ⟨gm, 4, none⟩ = some (.int .i64 p)) (by kernel_rfl) (by exact mem5 M) (fun hHeld => ?_)
                      replace M := M.drew
                      replace bc := bc.drew
                      replace B0 := B0.drew
                      generalize wr.drew = w7 at *
                      refine' wpAnyZ_takeA (i := 0) (v := ?_) (opAt rfl) (by kernel_rfl) (by kernel_rfl) (by kernel_rfl) (by kernel_rfl) (fun _ _ _ h => h) (by assumption) (by rfl) (fun w hSw => ?_) ?_
                      rotate_left
                      · (try dsimp only at hSw); go_simp; (try with_reducible rfl)
                      try simp only [Act.put, List.setIfInBounds_toArray, List.set_cons_zero, List.set_cons_succ]
                      refine' wpAnyZ_takeA (i := 1) (v := ?_) (opAt rfl) (by kernel_rfl) (by kernel_rfl) (by kernel_rfl) (by kernel_rfl) (fun _ _ _ h => h) (by assumption) (by rfl) (fun w hSw => ?_) ?_
                      rotate_left
                      · (try dsimp only at hSw); go_simp; (try with_reducible rfl)
                      try simp only [Act.put, List.setIfInBounds_toArray, List.set_cons_zero, List.set_cons_succ]
                      refine' wpAnyZ_takeA (i := 2) (v := ?_) (opAt rfl) (by kernel_rfl) (by kernel_rfl) (by kernel_rfl) (by kernel_rfl) (fun _ _ _ h => h) (by assumption) (by rfl) (fun w hSw => ?_) ?_
                      rotate_left
                      · (try dsimp only at hSw); go_simp; (try with_reducible rfl)
                      try simp only [Act.put, List.setIfInBounds_toArray, List.set_cons_zero, List.set_cons_succ]
                      refine' wpAnyZ_takeA (i := 3) (v := ?_) (opAt rfl) (by kernel_rfl) (by kernel_rfl) (by kernel_rfl) (by kernel_rfl) (fun _ _ _ h => h) (by assumption) (by rfl) (fun w hSw => ?_) ?_
                      rotate_left
                      · (try dsimp only at hSw); go_simp; (try with_reducible rfl)
                      try simp only [Act.put, List.setIfInBounds_toArray, List.set_cons_zero, List.set_cons_succ]
                      refine' wpAnyZ_takeA (i := 4) (v := ?_) (opAt rfl) (by kernel_rfl) (by kernel_rfl) (by kernel_rfl) (by kernel_rfl) (fun _ _ _ h => h) (by assumption) (by rfl) (fun w hSw => ?_) ?_
                      rotate_left
                      · (try dsimp only at hSw); go_simp; (try with_reducible rfl)
                      try simp only [Act.put, List.setIfInBounds_toArray, List.set_cons_zero, List.set_cons_succ]
                      refine' wpAnyZ_takeA (i := 5) (v := ?_) (opAt rfl) (by kernel_rfl) (by kernel_rfl) (by kernel_rfl) (by kernel_rfl) (fun _ _ _ h => h) (by assumption) (by rfl) (fun w hSw => ?_) ?_
                      rotate_left
                      · (try dsimp only at hSw); go_simp; (try with_reducible rfl)
                      try simp only [Act.put, List.setIfInBounds_toArray, List.set_cons_zero, List.set_cons_succ]
                      refine' wpAnyZ_takeA (i := 9) (v := ?_) (opAt rfl) (by kernel_rfl) (by kernel_rfl) (by kernel_rfl) (by kernel_rfl) (fun _ _ _ h => h) (by assumption) (by rfl) (fun w hSw => ?_) ?_
                      rotate_left
                      · (try dsimp only at hSw); go_simp; (try with_reducible rfl)
                      try simp only [Act.put, List.setIfInBounds_toArray, List.set_cons_zero, List.set_cons_succ]
                      refine' wpAnyZ_takeA (i := 10) (v := ?_) (opAt rfl) (by kernel_rfl) (by kernel_rfl) (by kernel_rfl) (by kernel_rfl) (fun _ _ _ h => h) (by assumption) (by rfl) (fun w hSw => ?_) ?_
                      rotate_left
                      · (try dsimp only at hSw); go_simp; (try with_reducible rfl)
                      try simp only [Act.put, List.setIfInBounds_toArray, List.set_cons_zero, List.set_cons_succ]
                      refine' wpAnyZ_takeA (i := 11) (v := ?_) (opAt rfl) (by kernel_rfl) (by kernel_rfl) (by kernel_rfl) (by kernel_rfl) (fun _ _ _ h => h) (by assumption) (by rfl) (fun w hSw => ?_) ?_
                      rotate_left
                      · (try dsimp only at hSw); go_simp; (try with_reducible rfl)
                      try simp only [Act.put, List.setIfInBounds_toArray, List.set_cons_zero, List.set_cons_succ]
                      refine' wpAnyZ_takeA (i := 12) (v := ?_) (opAt rfl) (by kernel_rfl) (by kernel_rfl) (by kernel_rfl) (by kernel_rfl) (fun _ _ _ h => h) (by assumption) (by rfl) (fun w hSw => ?_) ?_
                      rotate_left
                      · (try dsimp only at hSw); go_simp; (try with_reducible rfl)
                      try simp only [Act.put, List.setIfInBounds_toArray, List.set_cons_zero, List.set_cons_succ]
                      refine' wpAnyZ_takeA (i := 13) (v := ?_) (opAt rfl) (by kernel_rfl) (by kernel_rfl) (by kernel_rfl) (by kernel_rfl) (fun _ _ _ h => h) (by assumption) (by rfl) (fun w hSw => ?_) ?_
                      rotate_left
                      · (try dsimp only at hSw); go_simp; (try with_reducible rfl)
                      try simp only [Act.put, List.setIfInBounds_toArray, List.set_cons_zero, List.set_cons_succ]
                      refine' wpAnyZ_takeA (i := 15) (v := ?_) (opAt rfl) (by kernel_rfl) (by kernel_rfl) (by kernel_rfl) (by kernel_rfl) (fun _ _ _ h => h) (by assumption) (by rfl) (fun w hSw => ?_) ?_
                      rotate_left
                      · (try dsimp only at hSw); go_simp; (try with_reducible rfl)
                      try simp only [Act.put, List.setIfInBounds_toArray, List.set_cons_zero, List.set_cons_succ]
                      refine' wpAnyZ_takeA (i := 16) (v := ?_) (opAt rfl) (by kernel_rfl) (by kernel_rfl) (by kernel_rfl) (by kernel_rfl) (fun _ _ _ h => h) (by assumption) (by rfl) (fun w hSw => ?_) ?_
                      rotate_left
                      · (try dsimp only at hSw); go_simp; (try with_reducible rfl)
                      try simp only [Act.put, List.setIfInBounds_toArray, List.set_cons_zero, List.set_cons_succ]
                      refine wpAnyZ_ready (rs := [6]) (by kernel_rfl) (by simp) ?_
                      refine AllReadyZ.cons (opAt rfl) (fun K hK => ?_) ?_
                      · skip
                        go_simp
                        refine (CVk.out _).mono ?_
                        rintro e w8 ⟨rfl, hb1⟩
                        replace M := M.below hb1
                        replace bc := bc.below hb1 bc.lt
                        replace B0 := B0.trans (hb1.mono B0.size)
                        clear hb1
                        try go_wp2_with fail
                        refine hK.out _ _ (by exact mem5 M) (fun hHeld => ?_)
                        clear hK K
                        try simp only [Act.put, List.setIfInBounds_toArray, List.set_cons_zero, List.set_cons_succ]
                        refine wpAnyZ_ready (rs := [7]) (by kernel_rfl) (by simp) ?_
                        refine AllReadyZ.cons (opAt rfl) (fun K hK => ?_) ?_
                        · skip
                          go_simp
                          refine (C7.out _).mono ?_
                          rintro e w8x ⟨rfl, rfl⟩
                          try go_wp2_with fail
                          refine hK.out _ _ (by exact mem5 M) (fun hHeld => ?_)
                          clear hK K
                          try simp only [Act.put, List.setIfInBounds_toArray, List.set_cons_zero, List.set_cons_succ]
                          refine' wpAnyZ_takeA (i := 8) (v := ?_) (opAt rfl) (by kernel_rfl) (by kernel_rfl) (by kernel_rfl) (by kernel_rfl) (fun _ _ _ h => h) (by assumption) (by rfl) (fun w hSw => ?_) ?_
                          rotate_left
                          · (try dsimp only at hSw); go_simp; (try with_reducible rfl)
                          try simp only [Act.put, List.setIfInBounds_toArray, List.set_cons_zero, List.set_cons_succ]
                          refine wpAnyZ_ready (rs := [14]) (by kernel_rfl) (by simp) ?_
                          refine AllReadyZ.cons (opAt rfl) (fun K hK => ?_) ?_
                          · skip
                            go_simp
                            refine (CLk.out _).mono ?_
                            rintro e w9 ⟨rfl, hb1⟩
                            replace M := M.below hb1
                            replace bc := bc.below hb1 bc.lt
                            replace B0 := B0.trans (hb1.mono B0.size)
                            clear hb1
                            try go_wp2_with fail
                            refine hK.out _ _ (by exact mem5 M) (fun hHeld => ?_)
                            clear hK K
                            try simp only [Act.put, List.setIfInBounds_toArray, List.set_cons_zero, List.set_cons_succ]
                            refine' wpAnyZ_takeA (i := 17) (v := ?_) (opAt rfl) (by kernel_rfl) (by kernel_rfl) (by kernel_rfl) (by kernel_rfl) (fun _ _ _ h => h) (by assumption) (by rfl) (fun w hSw => ?_) ?_
                            rotate_left
                            · (try dsimp only at hSw); go_simp; (try with_reducible rfl)
                            try simp only [Act.put, List.setIfInBounds_toArray, List.set_cons_zero, List.set_cons_succ]
                            refine wpAnyZ_ready (rs := [18]) (by kernel_rfl) (by simp) ?_
                            refine AllReadyZ.cons (opAt rfl) (fun K hK => ?_) ?_
                            · skip
                              go_simp
                              have bl := Blk.new w9 57 #[.int .i64 q, .int .u64 2, .int .i64 q2, .int .u64 fr]
                              have hrd := Reads.blk bl 2 2 rfl
                              rw [show w9.heap.size + 1 = (w9.alloc (.cells #[.int .i64 q, .int .u64 2, .int .i64 q2, .int .u64 fr] 57)).heap.size by rw [World.size_alloc]] at hrd
                              have HGL := hide (show w9.heap.size ≠ gw from fun e => by have h9 := Blk.lt M.2.1; omega)
                              replace M := M.below ((Below.refl w9.heap.size w9).alloc (Nat.le_refl _) (.cells #[.int .i64 q, .int .u64 2, .int .i64 q2, .int .u64 fr] 57))
                              replace bc := bc.alloc (.cells #[.int .i64 q, .int .u64 2, .int .i64 q2, .int .u64 fr] 57)
                              replace B0 := B0.alloc B0.size (.cells #[.int .i64 q, .int .u64 2, .int .i64 q2, .int .u64 fr] 57)
                              clear bl
                              generalize w9.alloc (.cells #[.int .i64 q, .int .u64 2, .int .i64 q2, .int .u64 fr] 57) = wA at *
                              generalize w9.heap.size = gl at *
                              refine hK.out _ _ (by exact mem5 M) (fun hHeld => ?_)
                              clear hK K
                              try simp only [Act.put, List.setIfInBounds_toArray, List.set_cons_zero, List.set_cons_succ]
                              refine wpAnyZ_ready (rs := [19]) (by kernel_rfl) (by simp) ?_
                              refine AllReadyZ.last (opAt rfl) (by kernel_rfl) (fun K hK => ?_) ?_
                              · skip
                                go_simp
                                refine (write_any gm gw s t f l p (some ⟨gl, 0, none⟩) 2 2 (ws) [((q : Nat), 2), ((q2 : Nat), fr)] _ M hrd (fun _ ad e => by injection e with e; subst e; exact HGL.out) (by decide)).mono ?_
                                rintro e wB ⟨⟨v9, rfl⟩, M9, hg9⟩
                                replace M := M9
                                replace bc := bc.grown hg9 HCG.out
                                replace B0 := below_grown B0 hg9 HGW.out B0.size
                                clear M9 hg9 hrd HGL
                                try go_wp2_with fail
                                refine hK.out _ _ ?_
                                clear hK K
                                try simp only [Act.put, List.setIfInBounds_toArray, List.set_cons_zero, List.set_cons_succ]
                                refine wpAnyZ_done (by kernel_rfl) ?_ _
                                go_wp2_with fail
                                go_roundw
                                case measure => simp [intOf]; omega
                                case rel => exact ⟨k - 1, k, _, by go_num, by go_num, by omega, by omega, HK2.out, M, by rw [mWri_len]; exact HWL.out, ST.out, bc, B0⟩
                              exact AllReadyZ.nil
                            exact AllReadyZ.nil
                          exact AllReadyZ.nil
                        exact AllReadyZ.nil
                      exact AllReadyZ.nil
                    · have hk1e : k = 1 := by omega
                      subst hk1e
                      have hfe : fr = 2 ∨ fr = 0 := by rw [HFR.out]; split <;> omega
                      have HE := hide (begD_end (by rw [hwl]; have := HNN.out; omega) (by rw [hwl]; have := HNN.out; have := size_pos hs ht hf; omega) hD)
                      have HF2 := hide (show (if 2 ≤ s then (2 : Int) else 0) = fr by rw [HFR.out]; repeat' split <;> omega)
                      have HM := hide (fun w2 => Go.Proofs.YtlnckjemfabckaaDoor.hmake_any 0 fr w2 ⟨by omega, by omega⟩ ⟨by omega, by omega⟩)
                      have hfm : hmake 0 fr = fr := by rcases hfe with h | h <;> (rw [h]; rfl)
                      rw [hfm] at HM
                      rw [HF2.out] at HE
                      clear hD hwl hfe hfm
                      have mm := mem5 M
                      obtain ⟨m0, m1, m2, m3, m4⟩ := mm
                      go_wp2_with fail
                      clear m0 m1 m2 m3 m4
                      refine (C8.out _).mono ?_
                      rintro e wC ⟨rfl, hb1⟩
                      replace M := M.below hb1
                      replace bc := bc.below hb1 bc.lt
                      replace B0 := B0.trans (hb1.mono B0.size)
                      clear hb1
                      go_wp2_with fail
                      refine (HM.out _).mono ?_
                      rintro e wD ⟨rfl, rfl⟩
                      go_wp2_with fail
                      have bl := Blk.new wC 57 #[.int .i64 2, .int .u64 fr]
                      have hrd := Reads.blk bl 1 2 rfl
                      rw [show wC.heap.size + 1 = (wC.alloc (.cells #[.int .i64 2, .int .u64 fr] 57)).heap.size by rw [World.size_alloc]] at hrd
                      have HGL := hide (show wC.heap.size ≠ gw from fun e => by have h9 := Blk.lt M.2.1; omega)
                      replace M := M.below ((Below.refl wC.heap.size wC).alloc (Nat.le_refl _) (.cells #[.int .i64 2, .int .u64 fr] 57))
                      replace bc := bc.alloc (.cells #[.int .i64 2, .int .u64 fr] 57)
                      replace B0 := B0.alloc B0.size (.cells #[.int .i64 2, .int .u64 fr] 57)
                      clear bl
                      generalize wC.alloc (.cells #[.int .i64 2, .int .u64 fr] 57) = wE at *
                      generalize wC.heap.size = gl at *
                      refine (write_any gm gw s t f l p (some ⟨gl, 0, none⟩) 1 1 (ws) [(2, fr)] _ M hrd (fun _ ad e => by injection e with e; subst e; exact HGL.out) (by decide)).mono ?_
                      rintro e wF ⟨⟨v9, rfl⟩, M9, hg9⟩
                      replace M := M9
                      replace bc := bc.grown hg9 HCG.out
                      replace B0 := below_grown B0 hg9 HGW.out B0.size
                      clear M9 hg9 hrd HGL
                      try go_wp2_with fail
                      go_ret
                      refine ⟨⟨gm, gw, rfl, ?_, HGM.out, HGW.out⟩, B0⟩
                      have e9 : mWri ws [(2, fr)] 1 = begL s t f := HE.out
                      rw [← e9]
                      exact M
                exact AllReadyZ.nil
              exact AllReadyZ.nil
            exact AllReadyZ.nil
          exact AllReadyZ.nil
        exact AllReadyZ.nil
      exact AllReadyZ.nil
    exact AllReadyZ.nil
  exact AllReadyZ.nil
end Go.Proofs.YtlnckjemfabckaaDoor

/-
  A map from ints to bools that the call itself makes: what stands at a key, behind a store.
-/
namespace Go.Proofs.YtlnckjemfabckaaDoor
open Go.RowKit Go.Maps

theorem lawI64 : Keyed Tryd.prog 3 := int_keyed Tryd.underlying3
theorem zeroBoolI (w : World) : (zeroValue 4).run Tryd.prog w = .ok (.bool false) w := by kernel_rfl

theorem plainElem_bool_invI {H : Type} {P : Program} {e : TypeId} (he : P.underlying e = some .bool) {v : Value} {z : DataW H × List MemPlace} (h : plainElem P e v = some z) : ∃ a, v = .bool a ∧ z = (.lit (.bool a), []) := by
  unfold plainElem at h
  rw [he] at h
  cases v <;> simp at h
  exact ⟨_, rfl, h.symm⟩

/-- Block b is a map of at most n entries that answers f. -/
def MapInt (w : World) (b n : Nat) (f : Int → Bool) : Prop :=
  ∃ D : DataW Unit, IsMap D ∧ w.ownsMap Tryd.prog 3 (plainElem Tryd.prog 4) b n D ∧ ∀ k : Int, (Lit.int .i64 k).wf = true → D.atKey (.int .i64 k) (.lit (.bool false)) = .lit (.bool (f k))

theorem MapInt.made (w : World) : MapInt (w.alloc (.map #[] 0)) w.heap.size 0 (fun _ => false) :=
  ⟨.map [], ⟨[], rfl⟩, World.ownsMap_made _ _ _ _, fun _ _ => rfl⟩
theorem MapInt.below {w w' : World} {b n : Nat} {f : Int → Bool} (h : MapInt w b n f) (hb : Below w.heap.size w w') : MapInt w' b n f := by
  obtain ⟨D, hi, ho, ha⟩ := h
  exact ⟨D, hi, ho.kept (row := none) ⟨hb.os, hb.tape, hb.output, hb.size, fun k hk _ => hb.block k hk⟩ (by simp), ha⟩
theorem MapInt.below' {w w' : World} {b n B : Nat} {f : Int → Bool} (h : MapInt w b n f) (hB : b < B) (hb : Below B w w') : MapInt w' b n f := by
  obtain ⟨D, hi, ⟨es, cl, hh, r⟩, ha⟩ := h
  exact ⟨D, hi, ⟨es, cl, (hb.block b hB).trans hh, r⟩, ha⟩
theorem MapInt.alloc {w : World} {b n : Nat} {f : Int → Bool} (h : MapInt w b n f) (o : Obj) : MapInt (w.alloc o) b n f := by
  obtain ⟨D, hi, ho, ha⟩ := h
  exact ⟨D, hi, ho.alloc o, ha⟩
theorem MapInt.lt {w : World} {b n : Nat} {f : Int → Bool} (h : MapInt w b n f) : b < w.heap.size := by
  obtain ⟨D, hi, ho, ha⟩ := h
  exact ho.lt

theorem MapInt.look {w : World} {b n : Nat} {f : Int → Bool} (h : MapInt w b n f) (x : Int) (hx : (Lit.int .i64 x).wf = true) :
    (Instr.lookup 92 (.map (some b)) (.int .i64 x) false).run Tryd.prog w = .ok (.bool (f x)) w := by
  obtain ⟨D, hi, ho, ha⟩ := h
  obtain ⟨v, ps, hrun, hv⟩ := ho.lookup lawI64 Tryd.underlying92 (zeroBoolI w) (plainElem_bool Tryd.underlying4 false) (keyOf_int_mk Tryd.underlying3 hx)
  obtain ⟨a, rfl, e⟩ := plainElem_bool_invI Tryd.underlying4 hv
  have := ha x hx
  simp only [Prod.mk.injEq] at e
  rw [this] at e
  have e' : f x = a := by have := e.1; simpa using this
  rw [hrun, e']

theorem atKey_putI {D : DataW Unit} (hi : IsMap D) (x k : Int) (y : Bool) (z : DataW Unit) : (D.put (.int .i64 x) (.lit (.bool y))).atKey (.int .i64 k) z = if k = x then .lit (.bool y) else D.atKey (.int .i64 k) z := by
  by_cases h : k = x
  · subst h
    rw [if_pos rfl]
    exact atKey_put_same hi (by simp [WideAt.IsKeyLit]) _ _
  · rw [if_neg h]
    exact atKey_put_other (fun e => h (by injection e)) _ _

theorem wpList_mapUpdate_boolI {w : World} {ops : Array Oper} {rest : List Oper} {o : Oper} {a : Act} {Q : Exit → Act → World → Prop}
    (hg : o.guard = none) (m x v : Operand) (hop : o.op = Op.mapUpdate 92 m x v) {b n : Nat} {f : Int → Bool}
    (hm : a.eval m = .map (some b)) (hown : MapInt w b n f) (hn : n < maxLen) (k : Int) (y : Bool) (hx : a.eval x = .int .i64 k) (hv : a.eval v = .bool y) (hk : (Lit.int .i64 k).wf = true)
    (hK : ∀ w', MapInt w' b (n + 1) (fun j => if j = k then y else f j) → w.grownBy w' (some b) → wpList Tryd.prog ops Q rest (a.put o.dst undef) w') :
    wpList Tryd.prog ops Q (o :: rest) a w := by
  obtain ⟨D, hi, ho, ha⟩ := hown
  refine wpList_mapUpdate_own w hg m x v _ hop 3 4 lawI64 Tryd.underlying92 _ b n D hm ho hn _ _ (.int .i64 k) hx hv (keyOf_int_mk Tryd.underlying3 hk) (.lit (.bool y)) [] (plainElem_bool Tryd.underlying4 y) ?_
  intro w' h1 h2
  refine hK w' ⟨_, hi.put _ _, h1, fun j hj => ?_⟩ h2
  rw [atKey_putI hi]
  by_cases hjk : j = k
  · simp [hjk]
  · simp only [if_neg hjk]
    exact ha j hj

end Go.Proofs.YtlnckjemfabckaaDoor

/-
  The list of free slots: arena.Free.
-/
namespace Go.Proofs.YtlnckjemfabckaaDoor
open Go.RowKit Go.Maps

def frN (nx : Int → Int) (s : Int) : Nat → Int → List Int → List Int × Bool
  | 0, _, l => (l, false)
  | n + 1, x, l => if x = 0 then (l, true) else if s < x ∨ x ∈ l then (l, false) else frN nx s n (nx x) (l ++ [x])
def Nice (s : Int) (l : List Int) : Prop := l.Nodup ∧ ∀ x ∈ l, 1 ≤ x ∧ x ≤ s
theorem nice_nil (s : Int) : Nice s [] := ⟨List.nodup_nil, fun x hx => by simp at hx⟩
theorem nice_len : ∀ (n : Nat) (l : List Int), Nice (n : Int) l → l.length ≤ n
  | 0, l, h => by
    cases l with
    | nil => simp
    | cons x l => have := h.2 x (by simp); omega
  | n + 1, l, h => by
    have h1 : Nice (n : Int) (l.erase ((n : Int) + 1)) := by
      refine ⟨h.1.erase _, fun x hx => ?_⟩
      have hm := (h.1.mem_erase_iff).1 hx
      have := h.2 x hm.2
      have := hm.1
      omega
    have h2 := nice_len n _ h1
    have h3 := List.length_erase (a := (n : Int) + 1) (l := l)
    split at h3 <;> omega
theorem nice_snoc {s x : Int} {l : List Int} (h : Nice s l) (h1 : 1 ≤ x ∧ x ≤ s) (hn : x ∉ l) : Nice s (l ++ [x]) := by
  refine ⟨?_, fun y hy => ?_⟩
  · rw [List.nodup_append]
    refine ⟨h.1, by simp, fun a ha b hb => ?_⟩
    simp at hb
    subst hb
    exact fun e => hn (e ▸ ha)
  · rcases List.mem_append.1 hy with hy | hy
    · exact h.2 y hy
    · simp at hy
      omega
def nxt (ws : List Int) (t f k : Int) : Int := wGet ws (nB t f k + 2)
theorem wGet_w64 {ws : List Int} (h : AllW64 ws) (a : Int) : W64 (wGet ws a) := by
  unfold wGet
  split
  next c =>
    rw [List.getD_eq_getElem?_getD, List.getElem?_eq_getElem (by omega)]
    exact h _ (List.getElem_mem _)
  · exact ⟨by omega, by omega⟩
theorem MapInt.grown {w w' : World} {b n : Nat} {f : Int → Bool} {row : Option Nat} (h : MapInt w b n f) (hg : w.grownBy w' row) (hne : some b ≠ row) : MapInt w' b n f := by
  obtain ⟨D, hi, ho, ha⟩ := h
  exact ⟨D, hi, ho.kept hg hne, ha⟩
theorem infoI10 : (Tryd.prog.info? 3).map (fun i => (i.zero, i.size, i.bytes)) = some (some (.int .i64 0), 1, 8) := by kernel_rfl
def frR (ws : List Int) (s t f : Int) : List Int × Bool := frN (nxt ws t f) s (s.toNat + 1) (wGet ws 2 % 65536) []
def lenV : Value → Nat
  | .slice _ n _ => n
  | _ => 0
def FrIn (s : Int) (nx : Int → Int) (R : List Int × Bool) (w : World) (o i : Value) (wr : World) : Prop :=
  ∃ (x : Int) (l : List Int) (A : Option Addr) (c : Nat), o = .slice A l.length c ∧ i = .int .u64 x ∧ W64 x ∧ Nice s l ∧ frN nx s (s.toNat + 1 - l.length) x l = R ∧
    wr.ownsRow (w.heap.size + 1) 3 1 (.slice A l.length c) l.length (ints .i64 l) ∧ MapInt wr w.heap.size l.length (fun k => decide (k ∈ l)) ∧ w.heap.size + 1 ≤ wr.heap.size ∧ Below w.heap.size w wr
end Go.Proofs.YtlnckjemfabckaaDoor

/-
  The list of free slots of a machine that begins: from 2 on.
-/
namespace Go.Proofs.YtlnckjemfabckaaDoor
open Go.RowKit

/-- So many slots, from 2 on. -/
def rg2 (n : Nat) : List Int := (List.range n).map fun (i : Nat) => (i : Int) + 2
theorem rg2_len (n : Nat) : (rg2 n).length = n := by simp [rg2]
theorem rg2_succ (n : Nat) : rg2 (n + 1) = rg2 n ++ [(n : Int) + 2] := by simp [rg2, List.range_succ]
theorem rg2_mem (n : Nat) (x : Int) : x ∈ rg2 n ↔ 2 ≤ x ∧ x < (n : Int) + 2 := by
  simp only [rg2, List.mem_map, List.mem_range]
  constructor
  · rintro ⟨i, hi, rfl⟩
    omega
  · intro h
    exact ⟨(x - 2).toNat, by omega, by omega⟩
theorem beg_get {s t f a : Int} (h : 0 ≤ a ∧ a < laySize s t f) : wGet (begL s t f) a = begAt s t f a := by
  unfold wGet
  have hl := begL_len s t f
  rw [if_pos (by omega), begL_at (by omega)]
  rw [show ((a.toNat : Nat) : Int) = a by omega]
theorem beg_nxt {s t f k : Int} (hs : 1 ≤ s ∧ s ≤ 1000) (ht : 1 ≤ t ∧ t ≤ 64) (hf : 4 ≤ f ∧ f ≤ 64) (hk : 2 ≤ k ∧ k ≤ s) : nxt (begL s t f) t f k = if k < s then k + 1 else 0 := by
  unfold nxt
  have b := nB_bd hs ht hf (sl := k) (by omega)
  rw [beg_get (by omega)]
  have h2 := (at_or (t := t) (f := f) (j := nB t f k + 2) (k := k) (c := 2) (by omega) (by omega)).1 rfl
  have hp : nB t f k + 2 ≠ 2 := by
    have : 0 ≤ k * (3 + 2 * f) := Int.mul_nonneg (by omega) (by omega)
    unfold nB
    omega
  unfold begAt
  rw [if_neg hp]
  unfold bK bOR
  rw [h2.1, h2.2]
  repeat' split
  all_goals omega
theorem frN_beg {s t f : Int} (hs : 1 ≤ s ∧ s ≤ 1000) (ht : 1 ≤ t ∧ t ≤ 64) (hf : 4 ≤ f ∧ f ≤ 64) : ∀ (d m n : Nat), (m : Int) + 2 + d = s → d + 2 ≤ n → frN (nxt (begL s t f) t f) s n ((m : Int) + 2) (rg2 m) = (rg2 (m + d + 1), true)
  | 0, m, n, hm, hn => by
    obtain ⟨n, rfl⟩ : ∃ n', n = n' + 2 := ⟨n - 2, by omega⟩
    unfold frN
    rw [if_neg (by omega), if_neg (by rw [rg2_mem]; omega), beg_nxt hs ht hf (by omega), if_neg (by omega), ← rg2_succ]
    unfold frN
    rw [if_pos rfl]
  | d + 1, m, n, hm, hn => by
    obtain ⟨n, rfl⟩ : ∃ n', n = n' + 1 := ⟨n - 1, by omega⟩
    unfold frN
    rw [if_neg (by omega), if_neg (by rw [rg2_mem]; omega), beg_nxt hs ht hf (by omega), if_pos (by omega), ← rg2_succ]
    have h := frN_beg hs ht hf d (m + 1) n (by omega) (by omega)
    rw [show (m : Int) + 2 + 1 = ((m + 1 : Nat) : Int) + 2 by omega, h, show m + 1 + d + 1 = m + (d + 1) + 1 by omega]
theorem frR_beg {s t f : Int} (hs : 1 ≤ s ∧ s ≤ 1000) (ht : 1 ≤ t ∧ t ≤ 64) (hf : 4 ≤ f ∧ f ≤ 64) : frR (begL s t f) s t f = (rg2 (s - 1).toNat, true) := by
  unfold frR
  have hsp := size_pos hs ht hf
  rw [beg_get (by omega)]
  unfold begAt
  rw [if_pos rfl]
  by_cases h : 2 ≤ s
  · rw [if_pos h, show (2 : Int) % 65536 = ((0 : Nat) : Int) + 2 by rfl]
    have h := frN_beg hs ht hf (s - 2).toNat 0 (s.toNat + 1) (by omega) (by omega)
    rw [show 0 + (s - 2).toNat + 1 = (s - 1).toNat by omega, show rg2 0 = [] from rfl] at h
    exact h
  · rw [if_neg h, show (s - 1).toNat = 0 by omega]
    unfold frN
    rw [if_pos (by rfl)]
    rfl
end Go.Proofs.YtlnckjemfabckaaDoor

/-
  arena.Root: the word at slot 0's first value.
-/
namespace Go.Proofs.YtlnckjemfabckaaDoor
open Go.RowKit

set_option maxRecDepth 100000 in
set_option maxHeartbeats 1000000 in
theorem aroot_any (gm gw : Nat) (s t f l p : Int) (ws : List Int) (w : World) (hs : 1 ≤ s ∧ s ≤ 1000) (ht : 1 ≤ t ∧ t ≤ 64) (hf : 4 ≤ f ∧ f ≤ 64) (M : MemOk w gm gw s t f l p ws) :
    Calls Tryd.prog 55 #[.pointer (some ⟨gm, 0, none⟩)] w fun e w' => e = .returned (.int .u64 (wGet ws (nB t f 0 + 3 + f))) ∧ Below w.heap.size w w' := by
  have C := hide (fun w2 => lval_any s t f l p 0 0 w2 hs ht hf)
  rw [atpB_10 (by omega) (by omega), show nB t f 0 + 3 + f + 0 = nB t f 0 + 3 + f by omega] at C
  have WD := hide (fun w2 (h : MemOk w2 gm gw s t f l p ws) => word_any gm gw s t f l p (nB t f 0 + 3 + f) ws w2 h)
  have HM := hide M
  obtain ⟨m0, m1, m2, m3, m4⟩ := mem5 M
  generalize nB t f 0 + 3 + f = a at *
  clear M
  go_enter Tryd.func55, Tryd.ntmps55
  go_wp2_with fail
  refine (C.out _).mono ?_
  rintro e w1 ⟨rfl, hb⟩
  go_wp2_with fail
  refine (WD.out _ (HM.out.below hb)).mono ?_
  rintro e w2 ⟨rfl, rfl⟩
  go_wp2_with fail
  go_ret
  exact ⟨rfl, hb⟩
theorem beg_root {s t f : Int} (hs : 1 ≤ s ∧ s ≤ 1000) (ht : 1 ≤ t ∧ t ≤ 64) (hf : 4 ≤ f ∧ f ≤ 64) : wGet (begL s t f) (nB t f 0 + 3 + f) = 65537 := by
  have b := nB_bd hs ht hf (sl := 0) (by omega)
  rw [beg_get (by omega)]
  have h2 := (at_or (t := t) (f := f) (j := nB t f 0 + 3 + f) (k := 0) (c := 3 + f) (by omega) (by omega)).1 (by omega)
  have hp : nB t f 0 + 3 + f ≠ 2 := by unfold nB; omega
  unfold begAt
  rw [if_neg hp]
  unfold bK bOR
  rw [h2.1, h2.2]
  repeat' split
  all_goals omega
end Go.Proofs.YtlnckjemfabckaaDoor

/-
  arena.row of no words.
-/
namespace Go.Proofs.YtlnckjemfabckaaDoor
open Go.RowKit

def RowZ (w : World) (o i : Value) (wr : World) : Prop := o = .slice none 0 0 ∧ i = .int .i64 0 ∧ w = wr
set_option maxRecDepth 100000 in
set_option maxHeartbeats 1000000 in
theorem arow_zero (m fv : Value) (w : World) :
    Calls Tryd.prog 78 #[m, .int .i64 0, fv] w fun e w' => e = .returned (.slice none 0 0) ∧ w = w' := by
  go_enter Tryd.func78, Tryd.ntmps78
  go_wp2_with fail
  go_loopw [7, 10] (RowZ w) (fun _ _ _ => 0)
  case atStart => exact ⟨rfl, rfl, rfl⟩
  case round =>
    obtain ⟨rfl, rfl, rfl⟩ := hrel
    go_wp2_with fail
    go_ret
    exact ⟨rfl, rfl⟩
end Go.Proofs.YtlnckjemfabckaaDoor

/-
  arena.row over any closure that tells places; arena.Node's two closures.
-/
namespace Go.Proofs.YtlnckjemfabckaaDoor
open Go.RowKit

/-- So many words, at places that a function tells. -/
def rowL (ws : List Int) (g : Nat → Int) (n : Nat) : List Int := (List.range n).map fun i => wGet ws (g i)
theorem rowL_succ (ws : List Int) (g : Nat → Int) (n : Nat) : rowL ws g (n + 1) = rowL ws g n ++ [wGet ws (g n)] := by simp [rowL, List.range_succ]
theorem rowL_len (ws : List Int) (g : Nat → Int) (n : Nat) : (rowL ws g n).length = n := by simp [rowL]
theorem rowL_congr {ws : List Int} {g g' : Nat → Int} {n : Nat} (h : ∀ i, i < n → g i = g' i) : rowL ws g n = rowL ws g' n := by
  unfold rowL
  exact List.map_congr_left fun i hi => by rw [h i (List.mem_range.1 hi)]
def RowG (ws : List Int) (g : Nat → Int) (n : Nat) (w : World) (o i : Value) (wr : World) : Prop :=
  ∃ (k : Nat) (A : Option Addr) (c : Nat), k ≤ n ∧ i = .int .i64 k ∧ o = .slice A k c ∧ wr.ownsRow w.heap.size 24 1 (.slice A k c) k (ints .u64 (rowL ws g k)) ∧ Below w.heap.size w wr
set_option maxRecDepth 100000 in
set_option maxHeartbeats 2000000 in
theorem arow_any (gm gw K : Nat) (s t f l p : Int) (ws : List Int) (n : Nat) (caps : Array Value) (g : Nat → Int) (w : World) (hn : n ≤ 64) (M : MemOk w gm gw s t f l p ws)
    (hcf : ∀ args w, (callFunc K args).run Tryd.prog w = .ok (.enter K args) w)
    (hK : ∀ (i : Nat) w2, i < n → Below w.heap.size w w2 → Calls Tryd.prog K (#[.int .i64 i] ++ caps) w2 fun e w' => e = .returned (.int .i64 (g i)) ∧ Below w2.heap.size w2 w') :
    Calls Tryd.prog 78 #[.pointer (some ⟨gm, 0, none⟩), .int .i64 n, .func (.func K) #[] caps] w fun e w' => (∃ A c, e = .returned (.slice A n c) ∧ w'.ownsRow w.heap.size 24 1 (.slice A n c) n (ints .u64 (rowL ws g n))) ∧ Below w.heap.size w w' := by
  obtain ⟨i0, hi0, hz0, hs0, hb0⟩ := info_parts infoU64
  have HK := hide hK
  have WD := hide (fun a w2 (h : MemOk w2 gm gw s t f l p ws) => word_any gm gw s t f l p a ws w2 h)
  have HM := hide M
  have HN := hide hn
  clear hK M hn
  go_enter Tryd.func78, Tryd.ntmps78
  go_wp2_with fail
  go_loopw [7, 10] (RowG ws g n w) (fun _ i _ => n - (intOf i).toNat)
  case atStart => exact ⟨0, none, 0, Nat.zero_le _, rfl, rfl, World.ownsRow_nil _ _ _ _, Below.refl _ _⟩
  case round =>
    obtain ⟨k, A, c, hk, rfl, rfl, ho, B⟩ := hrel
    by_cases hlt : k < n
    · have CK := hide (HK.out k wr hlt B)
      have hL := hide (rowL_succ ws g k)
      have hlk : k ≤ 4294967296 := by have := HN.out; omega
      have hlt2 : (k : Int) < (n : Int) := by omega
      have HB := hide B
      have h64 := HN.out
      have hkc := hide (show ((k + 1 : Nat) : Int) = (k : Int) + 1 by omega)
      have hll : (rowL ws g k).length = k := rowL_len ws g k
      generalize rowL ws g k = zs at *
      generalize g k = a at *
      go_wp2_with fail
      refine (CK.out).mono ?_
      rintro e w1 ⟨rfl, hb1⟩
      have ho1 := own_below ho hb1
      have B1 := B.trans (hb1.mono B.size)
      clear hb1 ho B
      go_wp2_with fail
      refine (WD.out _ _ (HM.out.below B1)).mono ?_
      rintro e w2 ⟨rfl, rfl⟩
      generalize wGet ws a = x at *
      have hsz := B1.size
      go_wp2_with (at_builtin
                   refine wpList_append_one rfl (.tmp 13) (.tmp 19) _ rfl w.heap.size 24 i0 _ 1 8 Tryd.underlying52 hi0 hz0 hs0 hb0 rfl (by omega) (by omega) (.slice A k c) k _ rfl (ho1.alloc (.cells #[.int .u64 x] 24)) w1.heap.size #[.int .u64 x] rfl (Blk.new _ _ _) rfl rfl hlk (by rw [World.size_alloc]; omega) ?_
                   intro A3 c3 w3 ho3 hg3 hat3
                   have B3 := below_appended (B1.alloc hsz (.cells #[.int .u64 x] 24)) (ho1.alloc (.cells #[.int .u64 x] 24)) hg3 (by omega) (by rw [World.size_alloc]; omega))
      go_roundw
      case measure => simp [intOf]; omega
      case rel => exact ⟨k + 1, A3, c3, by omega, by rw [hkc.out], rfl, by rw [hL.out, ints_append]; exact ho3, B3⟩
    · obtain rfl : k = n := by omega
      go_wp2_with fail
      go_ret
      exact ⟨⟨A, c, rfl, ho⟩, B⟩
end Go.Proofs.YtlnckjemfabckaaDoor

/-
  Package leaf: rises, Right, spliced.
-/
namespace Go.Proofs.YtlnckjemfabckaaDoor
open Go.RowKit

/-- Each word is greater than the one ahead. -/
def RiseTo (l : List Int) (m : Nat) : Prop := ∀ i, i + 1 < m → l.getD i 0 < l.getD (i + 1) 0
def riseB (l : List Int) : Bool := (List.range (l.length - 1)).all fun i => decide (l.getD i 0 < l.getD (i + 1) 0)
theorem riseB_iff (l : List Int) : riseB l = true ↔ RiseTo l l.length := by
  unfold riseB RiseTo
  simp only [List.all_eq_true, List.mem_range, decide_eq_true_eq]
  exact ⟨fun h i hi => h i (by omega), fun h i hi => h i (by omega)⟩
theorem riseB_no {l : List Int} {i : Nat} (h : i + 1 < l.length) (hx : ¬ l.getD i 0 < l.getD (i + 1) 0) : riseB l = false := by
  rw [Bool.eq_false_iff]
  intro e
  exact hx ((riseB_iff l).1 e i h)
theorem RiseTo.succ {l : List Int} {m : Nat} (h : RiseTo l m) (hx : l.getD (m - 1) 0 < l.getD m 0) (hm : 1 ≤ m) : RiseTo l (m + 1) := by
  intro i hi
  by_cases e : i + 1 = m
  · subst e
    simpa using hx
  · exact h i (by omega)
theorem riseTo_small {l : List Int} {m : Nat} (h : m ≤ 1) : RiseTo l m := fun i hi => by omega

def RisesIn (l : List Int) (w : World) (i : Value) (wr : World) : Prop :=
  ∃ k j : Nat, j = k + 1 ∧ i = .int .i64 (j : Int) ∧ (j ≤ l.length → RiseTo l j) ∧ (l.length ≤ j → RiseTo l l.length) ∧ k ≤ l.length ∧ Below w.heap.size w wr

/-- A node's value. -/
def Nd (w : World) (B : Nat) (v : Value) (b : Bool) (ks vs : List Int) (l : Int) : Prop := ∃ k u, v = .agg #[.bool b, k, u, .int .u64 l] ∧ Sl w B k ks ∧ Sl w B u vs
theorem Nd.below {w w' : World} {B : Nat} {v : Value} {b : Bool} {ks vs : List Int} {l : Int} (h : Nd w B v b ks vs l) (hb : Below B w w') : Nd w' B v b ks vs l := by
  obtain ⟨k, u, h1, h2, h3⟩ := h
  exact ⟨k, u, h1, h2.below hb, h3.below hb⟩
theorem Nd.more {w : World} {B B' : Nat} {v : Value} {b : Bool} {ks vs : List Int} {l : Int} (h : Nd w B v b ks vs l) (hB : B ≤ B') : Nd w B' v b ks vs l := by
  obtain ⟨k, u, h1, h2, h3⟩ := h
  exact ⟨k, u, h1, h2.more hB, h3.more hB⟩
theorem Nd.zero (w : World) (B : Nat) : Nd w B (.agg #[.bool false, .slice none 0 0, .slice none 0 0, .int .u64 0]) false [] [] 0 := ⟨_, _, rfl, Sl.nil _ _, Sl.nil _ _⟩

def rightB (b : Bool) (ks vs : List Int) : Bool := !b && ks.length == vs.length && riseB ks

end Go.Proofs.YtlnckjemfabckaaDoor

/-
  Package seek and its reference: a search is kind, low, high, key.
-/
namespace Go.Proofs.YtlnckjemfabckaaDoor
open Go.RowKit

def swant (lo hi : Int) : Int := if hi ≤ lo then -1 else lo + (hi - lo) / 2
def spass (kind key k : Int) : Bool := if kind = 1 then decide (k < key) else decide (k ≤ key)
def slo (kind lo hi key k : Int) : Int := if hi ≤ lo then lo else if spass kind key k = true then lo + (hi - lo) / 2 + 1 else lo
def shi (kind lo hi key k : Int) : Int := if hi ≤ lo then hi else if spass kind key k = true then hi else lo + (hi - lo) / 2
def snew (kind n : Int) : Int := if n < 0 ∨ kind < 1 ∨ 2 < kind then 0 else n

/-- What a search's ends are. -/
def SOk (lo hi : Int) : Prop := 0 ≤ lo ∧ lo ≤ hi ∧ hi ≤ 9223372036854775807

theorem SOk.next {kind lo hi key k : Int} (h : SOk lo hi) : SOk (slo kind lo hi key k) (shi kind lo hi key k) := by
  obtain ⟨h1, h2, h3⟩ := h
  unfold slo shi SOk
  by_cases c : hi ≤ lo
  · rw [if_pos c, if_pos c]; exact ⟨h1, h2, h3⟩
  · rw [if_neg c, if_neg c]
    by_cases d : spass kind key k = true
    · rw [if_pos d, if_pos d]; omega
    · rw [if_neg d, if_neg d]; omega
theorem snew_ok (kind n : Int) (h : I64 n) : SOk 0 (snew kind n) := by
  obtain ⟨h1, h2⟩ := h
  unfold snew SOk
  split <;> omega

end Go.Proofs.YtlnckjemfabckaaDoor

/-
  How many bits a word has.
-/
namespace Go.Proofs.YtlnckjemfabckaaDoor

/-- How many bits a word has. -/
def wid (x : Nat) : Nat := if x = 0 then 0 else Nat.log2 x + 1
theorem wid_of {x k : Nat} (h1 : x < 2 ^ k) (h2 : k = 0 ∨ 2 ^ (k - 1) ≤ x) : wid x = k := by
  unfold wid
  by_cases hx : x = 0
  · rw [if_pos hx]
    rcases h2 with h2 | h2
    · exact h2.symm
    · have := Nat.two_pow_pos (k - 1); omega
  · rw [if_neg hx]
    have a := (Nat.log2_lt hx).2 h1
    rcases h2 with h2 | h2
    · subst h2; simp at h1; omega
    · have b := (Nat.le_log2 hx).2 h2
      omega
theorem wid_mod_succ (x k : Nat) : wid (x % 2 ^ (k + 1)) = if x / 2 ^ k % 2 = 1 then k + 1 else wid (x % 2 ^ k) := by
  have hp := Nat.two_pow_pos k
  have e : x % 2 ^ (k + 1) = x % 2 ^ k + 2 ^ k * (x / 2 ^ k % 2) := by
    rw [Nat.pow_succ, Nat.mod_mul]
  have hl := Nat.mod_lt x hp
  rcases Nat.mod_two_eq_zero_or_one (x / 2 ^ k) with h | h
  · rw [e, h, if_neg (by omega)]; simp
  · rw [if_pos h]
    apply wid_of
    · exact Nat.mod_lt _ (Nat.two_pow_pos _)
    · right
      rw [e, h]
      simp
theorem wid_le {x k : Nat} (h : x < 2 ^ k) : wid x ≤ k := by
  unfold wid
  by_cases hx : x = 0
  · rw [if_pos hx]; omega
  · rw [if_neg hx]
    have a := (Nat.log2_lt hx).2 h
    omega

end Go.Proofs.YtlnckjemfabckaaDoor

/-
  seek.Steps, the reference's Took.
-/
namespace Go.Proofs.YtlnckjemfabckaaDoor
open Go.RowKit

def steps (n : Int) : Int := if n < 1 then 0 else wid n.toNat
def StepsIn (x : Nat) (v n : Value) : Prop := ∃ k : Nat, n = .int .i64 k ∧ k ≤ 64 ∧ v = .int .i64 ((x / 2 ^ k : Nat) : Int) ∧ (k = 0 ∨ 2 ^ (k - 1) ≤ x)

end Go.Proofs.YtlnckjemfabckaaDoor

/-
  seek.Of: where a search among keys comes.
-/
namespace Go.Proofs.YtlnckjemfabckaaDoor
open Go.RowKit

/-- Where a search comes that is told keys; f: so many steps at most. -/
def sgo (kind key : Int) (l : List Int) : Nat → Int → Int → Int
  | 0, lo, _ => lo
  | f + 1, lo, hi => if hi ≤ lo then lo else sgo kind key l f (slo kind lo hi key (l.getD (lo + (hi - lo) / 2).toNat 0)) (shi kind lo hi key (l.getD (lo + (hi - lo) / 2).toNat 0))

theorem s_less {kind lo hi key k : Int} (h : SOk lo hi) (hlt : lo < hi) : (shi kind lo hi key k - slo kind lo hi key k).toNat < (hi - lo).toNat ∧ shi kind lo hi key k ≤ hi := by
  obtain ⟨h1, h2, h3⟩ := h
  unfold slo shi
  have c : ¬ hi ≤ lo := by omega
  rw [if_neg c, if_neg c]
  by_cases d : spass kind key k = true
  · rw [if_pos d, if_pos d]; omega
  · rw [if_neg d, if_neg d]; omega

def sfind (kind key : Int) (l : List Int) : Int := sgo kind key l l.length 0 (snew kind l.length)

end Go.Proofs.YtlnckjemfabckaaDoor

/-
  Searches among keys that rise: the plain law.
-/
namespace Go.Proofs.YtlnckjemfabckaaDoor
open Go.RowKit

def SortedTo (l : List Int) (k : Nat) : Prop := ∀ i j, i ≤ j → j < k → l.getD i 0 ≤ l.getD j 0

theorem spass_mono {kind key a b : Int} (h : spass kind key b = true) (hab : a ≤ b) : spass kind key a = true := by
  unfold spass at *
  split at h <;> simp_all <;> omega

theorem filter_prefix {p : Int → Bool} : ∀ {l : List Int} {m : Nat}, m ≤ l.length → (∀ i, i < m → p (l.getD i 0) = true) → (∀ i, m ≤ i → i < l.length → p (l.getD i 0) = false) → (l.filter p).length = m
  | [], m, hm, _, _ => by simp at hm; simp [hm]
  | x :: l, 0, _, _, h2 => by
    have h0 : p x = false := by simpa using h2 0 (by omega) (by simp)
    rw [List.filter_cons_of_neg (by simp [h0])]
    exact filter_prefix (m := 0) (by omega) (fun i hi => by omega) (fun i _ hi => by simpa using h2 (i + 1) (by omega) (by simpa using hi))
  | x :: l, m + 1, hm, h1, h2 => by
    have h0 : p x = true := by simpa using h1 0 (by omega)
    rw [List.filter_cons_of_pos h0, List.length_cons]
    congr 1
    exact filter_prefix (m := m) (by simpa using hm) (fun i hi => by simpa using h1 (i + 1) (by omega)) (fun i hi hl => by simpa using h2 (i + 1) (by omega) (by simpa using hl))

theorem sgo_count {kind key : Int} {l : List Int} (hs : SortedTo l l.length) : ∀ (f : Nat) (lo hi : Int), SOk lo hi → hi ≤ l.length → (hi - lo).toNat ≤ f →
    (∀ i, i < lo.toNat → spass kind key (l.getD i 0) = true) → (∀ i, hi.toNat ≤ i → i < l.length → spass kind key (l.getD i 0) = false) → sgo kind key l f lo hi = (l.filter (spass kind key)).length
  | f, lo, hi, hok, hl, hf, h1, h2 => by
    obtain ⟨a1, a2, a3⟩ := hok
    by_cases c : hi ≤ lo
    · have e : sgo kind key l f lo hi = lo := by cases f with
        | zero => rfl
        | succ f => exact if_pos c
      rw [e, filter_prefix (m := lo.toNat) (by omega) h1 (fun i hi' => h2 i (by omega))]
      omega
    · cases f with
      | zero => omega
      | succ f =>
        show (if hi ≤ lo then lo else _) = _
        rw [if_neg c]
        have hless := s_less (kind := kind) (key := key) (k := l.getD (lo + (hi - lo) / 2).toNat 0) ⟨a1, a2, a3⟩ (by omega)
        refine sgo_count hs f _ _ (SOk.next ⟨a1, a2, a3⟩) (by omega) (by omega) (fun i hi' => ?_) (fun i hi' hil => ?_)
        · unfold slo at hi'
          rw [if_neg c] at hi'
          by_cases d : spass kind key (l.getD (lo + (hi - lo) / 2).toNat 0) = true
          · rw [if_pos d] at hi'
            exact spass_mono d (hs i _ (by omega) (by omega))
          · rw [if_neg d] at hi'
            exact h1 i hi'
        · unfold shi at hi'
          rw [if_neg c] at hi'
          by_cases d : spass kind key (l.getD (lo + (hi - lo) / 2).toNat 0) = true
          · rw [if_pos d] at hi'
            exact h2 i hi' hil
          · rw [if_neg d] at hi'
            rcases hb : spass kind key (l.getD i 0) with _ | _
            · rfl
            · exact absurd (spass_mono hb (hs _ i (by omega) hil)) d

theorem sfind_count {kind key : Int} {l : List Int} (hs : SortedTo l l.length) (hl : l.length ≤ 1000) : sfind kind key l = if kind = 1 ∨ kind = 2 then ((l.filter (spass kind key)).length : Int) else 0 := by
  unfold sfind
  by_cases c : kind = 1 ∨ kind = 2
  · rw [if_pos c]
    have e : snew kind l.length = l.length := if_neg (by omega)
    rw [e]
    exact sgo_count hs _ _ _ ⟨by omega, by omega, by omega⟩ (by omega) (by omega) (fun i hi => by simp at hi) (fun i h1 h2 => by omega)
  · rw [if_neg c]
    have e : snew kind l.length = 0 := if_pos (by omega)
    rw [e]
    cases l.length <;> rfl
end Go.Proofs.YtlnckjemfabckaaDoor

/-
  Leaves, plainly: where a key stands among keys that rise.
-/
namespace Go.Proofs.YtlnckjemfabckaaDoor
open Go.RowKit

def lowN (key : Int) (l : List Int) : Nat := (l.filter fun k => decide (k < key)).length
def hasB (key : Int) (l : List Int) : Bool := l.any fun k => k == key
theorem lowN_le (key : Int) (l : List Int) : lowN key l ≤ l.length := List.length_filter_le _ _

theorem rise_lt {l : List Int} {m : Nat} (h : RiseTo l m) : ∀ (d i : Nat), i + d + 1 < m → l.getD i 0 < l.getD (i + d + 1) 0
  | 0, i, hi => h i hi
  | d + 1, i, hi => by
    have h1 := rise_lt h d i (by omega)
    have h2 := h (i + d + 1) (by omega)
    rw [show i + (d + 1) + 1 = i + d + 1 + 1 by omega]
    omega
theorem rise_lt' {l : List Int} {m i j : Nat} (h : RiseTo l m) (hij : i < j) (hj : j < m) : l.getD i 0 < l.getD j 0 := by
  have := rise_lt h (j - i - 1) i (by omega)
  rwa [show i + (j - i - 1) + 1 = j by omega] at this
theorem sorted_of_rise {l : List Int} {m : Nat} (h : RiseTo l m) : SortedTo l m := by
  intro i j hij hj
  rcases Nat.lt_or_ge i j with hl | hl
  · exact Int.le_of_lt (rise_lt' h hl hj)
  · obtain rfl : i = j := by omega
    exact Int.le_refl _
theorem find_count {key : Int} {l : List Int} (h : riseB l = true) (hl : l.length ≤ 1000) : sfind 1 key l = lowN key l := by
  rw [sfind_count (sorted_of_rise ((riseB_iff l).1 h)) hl, if_pos (.inl rfl)]
  congr 2
/-- Keys ahead of the place are below, the others are not. -/
theorem low_spec {key : Int} {l : List Int} (h : riseB l = true) : (∀ i, i < lowN key l → l.getD i 0 < key) ∧ (∀ i, lowN key l ≤ i → i < l.length → key ≤ l.getD i 0) := by
  have hr := (riseB_iff l).1 h
  have hs := sorted_of_rise hr
  -- the number of keys below is some place m with the two properties
  have hex : ∃ m, m ≤ l.length ∧ (∀ i, i < m → l.getD i 0 < key) ∧ (∀ i, m ≤ i → i < l.length → key ≤ l.getD i 0) := by
    clear hr h
    suffices H : ∀ n, n ≤ l.length → (∀ i, n ≤ i → i < l.length → key ≤ l.getD i 0) → ∃ m, m ≤ l.length ∧ (∀ i, i < m → l.getD i 0 < key) ∧ (∀ i, m ≤ i → i < l.length → key ≤ l.getD i 0) from
      H l.length (Nat.le_refl _) (fun i h1 h2 => by omega)
    intro n
    induction n with
    | zero => exact fun _ h => ⟨0, by omega, fun i hi => by omega, h⟩
    | succ n ih =>
      intro hn h
      by_cases c : l.getD n 0 < key
      · exact ⟨n + 1, hn, fun i hi => by have := hs i n (by omega) (by omega); omega, h⟩
      · refine ih (by omega) fun i h1 h2 => ?_
        rcases Nat.eq_or_lt_of_le h1 with rfl | h3
        · omega
        · exact h i h3 h2
  obtain ⟨m, hm, h1, h2⟩ := hex
  have e : lowN key l = m := filter_prefix hm (fun i hi => by simpa using h1 i hi) (fun i h3 h4 => by simpa using h2 i h3 h4)
  rw [e]
  exact ⟨h1, h2⟩
theorem has_iff {key : Int} {l : List Int} (h : riseB l = true) : hasB key l = (decide (lowN key l < l.length) && (l.getD (lowN key l) 0 == key)) := by
  obtain ⟨h1, h2⟩ := low_spec (key := key) h
  have hr := (riseB_iff l).1 h
  rw [Bool.eq_iff_iff]
  unfold hasB
  simp only [List.any_eq_true, beq_iff_eq, Bool.and_eq_true, decide_eq_true_eq]
  constructor
  · rintro ⟨x, hx, rfl⟩
    obtain ⟨j, hj, rfl⟩ := List.getElem_of_mem hx
    have ej : l.getD j 0 = l[j] := by simp [List.getD, hj]
    have hge : lowN l[j] l ≤ j := by
      rcases Nat.lt_or_ge j (lowN l[j] l) with c | c
      · have := h1 j c
        omega
      · exact c
    have hlt : lowN l[j] l < l.length := by omega
    refine ⟨hlt, ?_⟩
    have h3 := h2 (lowN l[j] l) (Nat.le_refl _) hlt
    rcases Nat.eq_or_lt_of_le hge with c | c
    · rw [c]
      exact ej
    · have := rise_lt' hr c hj
      omega
  · rintro ⟨hlt, he⟩
    refine ⟨l[lowN key l], List.getElem_mem hlt, ?_⟩
    simpa [List.getD, hlt] using he
end Go.Proofs.YtlnckjemfabckaaDoor

/-
  Package leaf: Find, spliced, cut, joined, fit.
-/
namespace Go.Proofs.YtlnckjemfabckaaDoor
open Go.RowKit

def findN (b : Bool) (ks vs : List Int) (key : Int) : Nat := if rightB b ks vs = true then lowN key ks else 0
def findB (b : Bool) (ks vs : List Int) (key : Int) : Bool := rightB b ks vs && hasB key ks
theorem rightB_rise {b : Bool} {ks vs : List Int} (h : rightB b ks vs = true) : riseB ks = true := by
  unfold rightB at h
  simp only [Bool.and_eq_true] at h
  exact h.2

theorem reads3 {w : World} {g : Nat} {t : TypeId} {cs : List Value} {n : Nat} (h : Blk w g t cs.toArray) (hn : cs.length = n) : Reads w (g + 1) 1 (some ⟨g, 0, none⟩) n cs := by
  have := Reads.blk h n 1 (by simp [hn])
  simpa using this

end Go.Proofs.YtlnckjemfabckaaDoor

/-
  Package leaf: cut, joined, fit.
-/
namespace Go.Proofs.YtlnckjemfabckaaDoor
open Go.RowKit

/-- A node's value whose lists lie in blocks from lo on. -/
def NdO (w : World) (lo : Nat) (v : Value) (b : Bool) (ks vs : List Int) (l : Int) : Prop := ∃ k u, v = .agg #[.bool b, k, u, .int .u64 l] ∧ Own w lo k ks ∧ Own w lo u vs
theorem NdO.below {w w' : World} {lo : Nat} {v : Value} {b : Bool} {ks vs : List Int} {l : Int} (h : NdO w lo v b ks vs l) (hb : Below w.heap.size w w') : NdO w' lo v b ks vs l := by
  obtain ⟨k, u, h1, h2, h3⟩ := h
  exact ⟨k, u, h1, h2.below hb, h3.below hb⟩
theorem NdO.mono {w : World} {lo lo' : Nat} {v : Value} {b : Bool} {ks vs : List Int} {l : Int} (h : NdO w lo v b ks vs l) (hl : lo' ≤ lo) : NdO w lo' v b ks vs l := by
  obtain ⟨k, u, h1, h2, h3⟩ := h
  exact ⟨k, u, h1, h2.mono hl, h3.mono hl⟩
theorem NdO.nd {w : World} {lo : Nat} {v : Value} {b : Bool} {ks vs : List Int} {l : Int} (h : NdO w lo v b ks vs l) : Nd w w.heap.size v b ks vs l := by
  obtain ⟨k, u, h1, h2, h3⟩ := h
  exact ⟨k, u, h1, h2.sl, h3.sl⟩
theorem NdO.far {w : World} {lo : Nat} {v : Value} {b : Bool} {ks vs : List Int} {l : Int} (h : NdO w lo v b ks vs l) {p : Addr} (hp : p.block < lo) (q : Value) : NdO (w.setCell p q) lo v b ks vs l := by
  obtain ⟨k, u, h1, h2, h3⟩ := h
  exact ⟨k, u, h1, h2.far hp q, h3.far hp q⟩
theorem NdO.val {w : World} {lo : Nat} {v : Value} {b : Bool} {ks vs : List Int} {l : Int} (h : NdO w lo v b ks vs l) : ∃ A c A' c', v = .agg #[.bool b, .slice A ks.length c, .slice A' vs.length c', .int .u64 l] := by
  obtain ⟨k, u, h1, h2, h3⟩ := h
  obtain ⟨A, c, rfl⟩ := h2.val
  obtain ⟨A', c', rfl⟩ := h3.val
  exact ⟨A, c, A', c', h1⟩

theorem Blk.far4 {w : World} {g : Nat} {t : TypeId} {cs : Array Value} (h : Blk w g t cs) {g' : Nat} (hg : g ≠ g') (a b c d : Value) : Blk ((((w.setCell ⟨g', 0, none⟩ a).setCell ⟨g', 1, none⟩ b).setCell ⟨g', 2, none⟩ c).setCell ⟨g', 3, none⟩ d) g t cs :=
  (((h.far (p := ⟨g', 0, none⟩) hg a).far (p := ⟨g', 1, none⟩) hg b).far (p := ⟨g', 2, none⟩) hg c).far (p := ⟨g', 3, none⟩) hg d

end Go.Proofs.YtlnckjemfabckaaDoor

/-
  Package leaf: joined, fit.
-/
namespace Go.Proofs.YtlnckjemfabckaaDoor
open Go.RowKit

theorem Own.alloc {w : World} {lo : Nat} {v : Value} {xs : List Int} (h : Own w lo v xs) (o : Obj) : Own (w.alloc o) lo v xs := h.below ((Below.refl _ _).alloc (Nat.le_refl _) o)
theorem reads2 {w : World} {g B : Nat} {x y : Value} (h0 : w.cell? ⟨g, 0, none⟩ = some x) (h1 : w.cell? ⟨g, 1, none⟩ = some y) (hg : g < B) : Reads w B 1 (some ⟨g, 0, none⟩) 2 [x, y] := by
  refine ⟨rfl, fun _ => ⟨_, rfl, hg, fun j u hu => ?_⟩⟩
  rw [Addr.add_lit]
  match j, hu with
  | 0, hu => simpa [h0] using hu
  | 1, hu => simpa [h1] using hu
  | j + 2, hu => simp at hu

end Go.Proofs.YtlnckjemfabckaaDoor

/-
  A node that grows word by word: what an append to one of its lists leaves of the rest.
-/
namespace Go.Proofs.YtlnckjemfabckaaDoor
open Go.RowKit

theorem own_old {w : World} {B : Nat} {e : TypeId} {s n g : Nat} {xs : List Value} {v : Value} (h : w.ownsRow B e s v n xs) (hg : w.heap.size ≤ g) : some g ≠ v.ownBlock := fun e' => by
  have := (h.lt g e'.symm).2
  omega
/-- What an append to the row v leaves of another row, and of a block. -/
theorem push_row {w w' : World} {lo : Nat} {e : TypeId} {s m : Nat} {ys : List Value} {v u v' : Value} (h2 : w.ownsRow lo e s u m ys) (ha : Apart v u) (hgr : w.grownBy w' v.ownBlock) (hat : v'.ownBlock = v.ownBlock ∨ v'.ownBlock = some w.heap.size) :
    w'.ownsRow lo e s u m ys ∧ Apart v' u := ⟨own_kept h2 hgr ha, ha.grown h2 hat⟩
theorem Nd.of_rows {w : World} {lo : Nat} {b : Bool} {l : Int} {A1 A2 : Option Addr} {c1 c2 : Nat} {ks vs : List Int} (h1 : w.ownsRow lo 24 1 (.slice A1 ks.length c1) ks.length (ints .u64 ks)) (h2 : w.ownsRow lo 24 1 (.slice A2 vs.length c2) vs.length (ints .u64 vs)) :
    NdO w lo (.agg #[.bool b, .slice A1 ks.length c1, .slice A2 vs.length c2, .int .u64 l]) b ks vs l := ⟨_, _, rfl, h1, h2⟩
theorem cellsN {w : World} {g : Nat} {T : TypeId} {c0 c1 c2 c3 : Value} (h : Blk w g T #[c0, c1, c2, c3]) : w.cell? ⟨g, 0, none⟩ = some c0 ∧ w.cell? ⟨g, 1, none⟩ = some c1 ∧ w.cell? ⟨g, 2, none⟩ = some c2 ∧ w.cell? ⟨g, 3, none⟩ = some c3 := ⟨h.cell 0, h.cell 1, h.cell 2, h.cell 3⟩
theorem cellsP {w : World} {g : Nat} {T : TypeId} {c0 c1 : Value} (h : Blk w g T #[c0, c1]) : w.cell? ⟨g, 0, none⟩ = some c0 ∧ w.cell? ⟨g, 1, none⟩ = some c1 := ⟨h.cell 0, h.cell 1⟩
theorem Blk.setK {w : World} {g : Nat} {t : TypeId} {a b c d : Value} (h : Blk w g t #[a, b, c, d]) (x : Value) : Blk (w.setCell ⟨g, 1, none⟩ x) g t #[a, x, c, d] := by
  have b9 := h.set_ 1 x
  simpa only [List.setIfInBounds_toArray, List.set_cons_zero, List.set_cons_succ] using b9
theorem Blk.setV {w : World} {g : Nat} {t : TypeId} {a b c d : Value} (h : Blk w g t #[a, b, c, d]) (x : Value) : Blk (w.setCell ⟨g, 2, none⟩ x) g t #[a, b, x, d] := by
  have b9 := h.set_ 2 x
  simpa only [List.setIfInBounds_toArray, List.set_cons_zero, List.set_cons_succ] using b9
theorem Blk.setN {w : World} {g : Nat} {t : TypeId} {a b c d : Value} (h : Blk w g t #[a, b, c, d]) (x y z u : Value) : Blk ((((w.setCell ⟨g, 0, none⟩ x).setCell ⟨g, 1, none⟩ y).setCell ⟨g, 2, none⟩ z).setCell ⟨g, 3, none⟩ u) g t #[x, y, z, u] := by
  have b9 := (((h.set_ 0 x).set_ 1 y).set_ 2 z).set_ 3 u
  simpa only [List.setIfInBounds_toArray, List.set_cons_zero, List.set_cons_succ] using b9
theorem below_setN {B : Nat} {a w : World} (h : Below B a w) {g : Nat} (hg : B ≤ g) (x y z u : Value) : Below B a ((((w.setCell ⟨g, 0, none⟩ x).setCell ⟨g, 1, none⟩ y).setCell ⟨g, 2, none⟩ z).setCell ⟨g, 3, none⟩ u) :=
  (((h.setCell (p := ⟨g, 0, none⟩) hg x).setCell (p := ⟨g, 1, none⟩) hg y).setCell (p := ⟨g, 2, none⟩) hg z).setCell (p := ⟨g, 3, none⟩) hg u
theorem NdO.farN {w : World} {lo : Nat} {v : Value} {b : Bool} {ks vs : List Int} {l : Int} (h : NdO w lo v b ks vs l) {g : Nat} (hg : g < lo) (x y z u : Value) : NdO ((((w.setCell ⟨g, 0, none⟩ x).setCell ⟨g, 1, none⟩ y).setCell ⟨g, 2, none⟩ z).setCell ⟨g, 3, none⟩ u) lo v b ks vs l :=
  (((h.far (p := ⟨g, 0, none⟩) hg x).far (p := ⟨g, 1, none⟩) hg y).far (p := ⟨g, 2, none⟩) hg z).far (p := ⟨g, 3, none⟩) hg u
theorem own_farN {w : World} {B g : Nat} {e : TypeId} {s n : Nat} {xs : List Value} {v : Value} (h : w.ownsRow B e s v n xs) (hg : g < B) (x y z u : Value) : ((((w.setCell ⟨g, 0, none⟩ x).setCell ⟨g, 1, none⟩ y).setCell ⟨g, 2, none⟩ z).setCell ⟨g, 3, none⟩ u).ownsRow B e s v n xs :=
  own_setCell_far (own_setCell_far (own_setCell_far (own_setCell_far h (p := ⟨g, 0, none⟩) hg x) (p := ⟨g, 1, none⟩) hg y) (p := ⟨g, 2, none⟩) hg z) (p := ⟨g, 3, none⟩) hg u
/-- The keys, the values of pairs. -/
def fstL (l : List (Int × Int)) : List Int := l.map Prod.fst
def sndL (l : List (Int × Int)) : List Int := l.map Prod.snd
theorem fstL_len (l : List (Int × Int)) : (fstL l).length = l.length := by simp [fstL]
theorem sndL_len (l : List (Int × Int)) : (sndL l).length = l.length := by simp [sndL]
theorem fstL_take (l : List (Int × Int)) (k : Nat) (h : k < l.length) : fstL (l.take (k + 1)) = fstL (l.take k) ++ [l[k].1] := by unfold fstL; rw [take_snoc' l k h, List.map_append]; rfl
theorem sndL_take (l : List (Int × Int)) (k : Nat) (h : k < l.length) : sndL (l.take (k + 1)) = sndL (l.take k) ++ [l[k].2] := by unfold sndL; rw [take_snoc' l k h, List.map_append]; rfl
theorem right_pairs (l : List (Int × Int)) : rightB false (fstL l) (sndL l) = riseB (fstL l) := by
  unfold rightB
  simp [fstL_len, sndL_len]
end Go.Proofs.YtlnckjemfabckaaDoor

/-
  arena.Node of any slot.
-/
namespace Go.Proofs.YtlnckjemfabckaaDoor
open Go.RowKit Go.Shelf

theorem own_setT {w : World} {B g : Nat} {e T : TypeId} {s n : Nat} {xs : List Value} {v : Value} {cs : Array Value} (h : w.ownsRow B e s v n xs) (hb : Blk w g T cs) (hne : e ≠ T) (f : Nat) (u : Value) : (w.setCell ⟨g, f, none⟩ u).ownsRow B e s v n xs :=
  h.kept (grown_set w g f u) (.inr (own_blk_ne h hb hne))
theorem cell_old {w w' : World} {q : Addr} {v : Value} (hb : Below w.heap.size w w') (h : w.cell? q = some v) : w'.cell? q = some v := by
  have hlt : q.block < w.heap.size := by
    unfold World.cell? at h
    cases ho : w.heap[q.block]? with
    | none => simp [ho] at h
    | some o => exact (Array.getElem?_eq_some_iff.1 ho).1
  exact (hb.cell hlt).trans h
set_option maxRecDepth 100000 in
set_option maxHeartbeats 4000000 in
theorem akey1_any (gm gw bm0 bs0 : Nat) (s t f l p k i : Int) (ws : List Int) (w : World) (hs : 1 ≤ s ∧ s ≤ 1000) (ht : 1 ≤ t ∧ t ≤ 64) (hf : 4 ≤ f ∧ f ≤ 64) (hk : 0 ≤ k ∧ k ≤ s) (hi : 0 ≤ i ∧ i < f) (M : MemOk w gm gw s t f l p ws)
    (bm : w.cell? ⟨bm0, 0, none⟩ = some (.pointer (some ⟨gm, 0, none⟩))) (bs : w.cell? ⟨bs0, 0, none⟩ = some (.int .i64 k)) :
    Calls Tryd.prog 79 #[.int .i64 i, .pointer (some ⟨bm0, 0, none⟩), .pointer (some ⟨bs0, 0, none⟩)] w fun e w' => e = .returned (.int .i64 (nB t f k + 3 + i)) ∧ Below w.heap.size w w' := by
  have C := hide (fun w2 => lkey_any s t f l p k i w2 hs ht hf)
  rw [atpB_9 hk hi] at C
  obtain ⟨m0, m1, m2, m3, m4⟩ := mem5 M
  generalize nB t f k + 3 + i = r at *
  clear hi hk hs ht hf M
  have B := Below.refl w.heap.size w
  go_enter Tryd.func79, Tryd.ntmps79
  go_wp2_with fail
  refine wp_region_heldZ [] (fun w' => w'.cell? ⟨bm0, 0, none⟩ = some (.pointer (some ⟨gm, 0, none⟩)) ∧ w'.cell? ⟨bs0, 0, none⟩ = some (.int .i64 k) ∧ w'.cell? ⟨gm, 0, none⟩ = some (.int .i64 s) ∧ w'.cell? ⟨gm, 1, none⟩ = some (.int .i64 t) ∧ w'.cell? ⟨gm, 2, none⟩ = some (.int .i64 f) ∧ w'.cell? ⟨gm, 3, none⟩ = some (.int .i64 l) ∧ w'.cell? ⟨gm, 4, none⟩ = some (.int .i64 p)) (by kernel_rfl) (by exact ⟨bm, bs, m0, m1, m2, m3, m4⟩) (fun hHeld => ?_)
  refine' wpAnyZ_takeA (i := 0) (v := ?_) (opAt rfl) (by kernel_rfl) (by kernel_rfl) (by kernel_rfl) (by kernel_rfl) (fun _ _ _ h => h) (by assumption) (by rfl) (fun w hSw => ?_) ?_
  rotate_left
  · (try dsimp only at hSw); go_simp; (try with_reducible rfl)
  try simp only [Act.put, List.setIfInBounds_toArray, List.set_cons_zero, List.set_cons_succ]
  refine' wpAnyZ_takeA (i := 1) (v := ?_) (opAt rfl) (by kernel_rfl) (by kernel_rfl) (by kernel_rfl) (by kernel_rfl) (fun _ _ _ h => h) (by assumption) (by rfl) (fun w hSw => ?_) ?_
  rotate_left
  · (try dsimp only at hSw); go_simp; (try with_reducible rfl)
  try simp only [Act.put, List.setIfInBounds_toArray, List.set_cons_zero, List.set_cons_succ]
  refine' wpAnyZ_takeA (i := 2) (v := ?_) (opAt rfl) (by kernel_rfl) (by kernel_rfl) (by kernel_rfl) (by kernel_rfl) (fun _ _ _ h => h) (by assumption) (by rfl) (fun w hSw => ?_) ?_
  rotate_left
  · (try dsimp only at hSw); go_simp; (try with_reducible rfl)
  try simp only [Act.put, List.setIfInBounds_toArray, List.set_cons_zero, List.set_cons_succ]
  refine' wpAnyZ_takeA (i := 3) (v := ?_) (opAt rfl) (by kernel_rfl) (by kernel_rfl) (by kernel_rfl) (by kernel_rfl) (fun _ _ _ h => h) (by assumption) (by rfl) (fun w hSw => ?_) ?_
  rotate_left
  · (try dsimp only at hSw); go_simp; (try with_reducible rfl)
  try simp only [Act.put, List.setIfInBounds_toArray, List.set_cons_zero, List.set_cons_succ]
  refine' wpAnyZ_takeA (i := 4) (v := ?_) (opAt rfl) (by kernel_rfl) (by kernel_rfl) (by kernel_rfl) (by kernel_rfl) (fun _ _ _ h => h) (by assumption) (by rfl) (fun w hSw => ?_) ?_
  rotate_left
  · (try dsimp only at hSw); go_simp; (try with_reducible rfl)
  try simp only [Act.put, List.setIfInBounds_toArray, List.set_cons_zero, List.set_cons_succ]
  refine' wpAnyZ_takeA (i := 5) (v := ?_) (opAt rfl) (by kernel_rfl) (by kernel_rfl) (by kernel_rfl) (by kernel_rfl) (fun _ _ _ h => h) (by assumption) (by rfl) (fun w hSw => ?_) ?_
  rotate_left
  · (try dsimp only at hSw); go_simp; (try with_reducible rfl)
  try simp only [Act.put, List.setIfInBounds_toArray, List.set_cons_zero, List.set_cons_succ]
  refine wpAnyZ_ready (rs := [6]) (by kernel_rfl) (by simp) ?_
  refine AllReadyZ.cons (opAt rfl) (fun K hK => ?_) ?_
  · skip
    go_simp
    refine (C.out _).mono ?_
    rintro e w1 ⟨rfl, hb1⟩
    have hc := fun (q : Addr) v (h : w.drew.cell? q = some v) => cell_old hb1 h
    replace bm := hc _ _ bm
    replace bs := hc _ _ bs
    replace m0 := hc _ _ m0
    replace m1 := hc _ _ m1
    replace m2 := hc _ _ m2
    replace m3 := hc _ _ m3
    replace m4 := hc _ _ m4
    clear hc
    replace B := B.drew.trans (hb1.mono B.drew.size)
    clear hb1
    try go_wp2_with fail
    refine hK.out _ _ (by exact ⟨bm, bs, m0, m1, m2, m3, m4⟩) (fun hHeld => ?_)
    clear hK K
    try simp only [Act.put, List.setIfInBounds_toArray, List.set_cons_zero, List.set_cons_succ]
    refine' wpAnyZ_takeA (i := 7) (v := ?_) (opAt rfl) (by kernel_rfl) (by kernel_rfl) (by kernel_rfl) (by kernel_rfl) (fun _ _ _ h => h) (by assumption) (by rfl) (fun w hSw => ?_) ?_
    rotate_left
    · (try dsimp only at hSw); go_simp; (try with_reducible rfl)
    try simp only [Act.put, List.setIfInBounds_toArray, List.set_cons_zero, List.set_cons_succ]
    refine wpAnyZ_done (by kernel_rfl) ?_ _
    go_wp2_with fail
    go_ret
    exact ⟨rfl, B⟩
  exact AllReadyZ.nil
set_option maxRecDepth 100000 in
set_option maxHeartbeats 4000000 in
theorem aval1_any (gm gw bm0 bs0 : Nat) (s t f l p k i : Int) (ws : List Int) (w : World) (hs : 1 ≤ s ∧ s ≤ 1000) (ht : 1 ≤ t ∧ t ≤ 64) (hf : 4 ≤ f ∧ f ≤ 64) (hk : 0 ≤ k ∧ k ≤ s) (hi : 0 ≤ i ∧ i < f) (M : MemOk w gm gw s t f l p ws)
    (bm : w.cell? ⟨bm0, 0, none⟩ = some (.pointer (some ⟨gm, 0, none⟩))) (bs : w.cell? ⟨bs0, 0, none⟩ = some (.int .i64 k)) :
    Calls Tryd.prog 81 #[.int .i64 i, .pointer (some ⟨bm0, 0, none⟩), .pointer (some ⟨bs0, 0, none⟩)] w fun e w' => e = .returned (.int .i64 (nB t f k + 3 + f + i)) ∧ Below w.heap.size w w' := by
  have C := hide (fun w2 => lval_any s t f l p k i w2 hs ht hf)
  rw [atpB_10 hk hi] at C
  obtain ⟨m0, m1, m2, m3, m4⟩ := mem5 M
  generalize nB t f k + 3 + f + i = r at *
  clear hi hk hs ht hf M
  have B := Below.refl w.heap.size w
  go_enter Tryd.func81, Tryd.ntmps81
  go_wp2_with fail
  refine wp_region_heldZ [] (fun w' => w'.cell? ⟨bm0, 0, none⟩ = some (.pointer (some ⟨gm, 0, none⟩)) ∧ w'.cell? ⟨bs0, 0, none⟩ = some (.int .i64 k) ∧ w'.cell? ⟨gm, 0, none⟩ = some (.int .i64 s) ∧ w'.cell? ⟨gm, 1, none⟩ = some (.int .i64 t) ∧ w'.cell? ⟨gm, 2, none⟩ = some (.int .i64 f) ∧ w'.cell? ⟨gm, 3, none⟩ = some (.int .i64 l) ∧ w'.cell? ⟨gm, 4, none⟩ = some (.int .i64 p)) (by kernel_rfl) (by exact ⟨bm, bs, m0, m1, m2, m3, m4⟩) (fun hHeld => ?_)
  refine' wpAnyZ_takeA (i := 0) (v := ?_) (opAt rfl) (by kernel_rfl) (by kernel_rfl) (by kernel_rfl) (by kernel_rfl) (fun _ _ _ h => h) (by assumption) (by rfl) (fun w hSw => ?_) ?_
  rotate_left
  · (try dsimp only at hSw); go_simp; (try with_reducible rfl)
  try simp only [Act.put, List.setIfInBounds_toArray, List.set_cons_zero, List.set_cons_succ]
  refine' wpAnyZ_takeA (i := 1) (v := ?_) (opAt rfl) (by kernel_rfl) (by kernel_rfl) (by kernel_rfl) (by kernel_rfl) (fun _ _ _ h => h) (by assumption) (by rfl) (fun w hSw => ?_) ?_
  rotate_left
  · (try dsimp only at hSw); go_simp; (try with_reducible rfl)
  try simp only [Act.put, List.setIfInBounds_toArray, List.set_cons_zero, List.set_cons_succ]
  refine' wpAnyZ_takeA (i := 2) (v := ?_) (opAt rfl) (by kernel_rfl) (by kernel_rfl) (by kernel_rfl) (by kernel_rfl) (fun _ _ _ h => h) (by assumption) (by rfl) (fun w hSw => ?_) ?_
  rotate_left
  · (try dsimp only at hSw); go_simp; (try with_reducible rfl)
  try simp only [Act.put, List.setIfInBounds_toArray, List.set_cons_zero, List.set_cons_succ]
  refine' wpAnyZ_takeA (i := 3) (v := ?_) (opAt rfl) (by kernel_rfl) (by kernel_rfl) (by kernel_rfl) (by kernel_rfl) (fun _ _ _ h => h) (by assumption) (by rfl) (fun w hSw => ?_) ?_
  rotate_left
  · (try dsimp only at hSw); go_simp; (try with_reducible rfl)
  try simp only [Act.put, List.setIfInBounds_toArray, List.set_cons_zero, List.set_cons_succ]
  refine' wpAnyZ_takeA (i := 4) (v := ?_) (opAt rfl) (by kernel_rfl) (by kernel_rfl) (by kernel_rfl) (by kernel_rfl) (fun _ _ _ h => h) (by assumption) (by rfl) (fun w hSw => ?_) ?_
  rotate_left
  · (try dsimp only at hSw); go_simp; (try with_reducible rfl)
  try simp only [Act.put, List.setIfInBounds_toArray, List.set_cons_zero, List.set_cons_succ]
  refine' wpAnyZ_takeA (i := 5) (v := ?_) (opAt rfl) (by kernel_rfl) (by kernel_rfl) (by kernel_rfl) (by kernel_rfl) (fun _ _ _ h => h) (by assumption) (by rfl) (fun w hSw => ?_) ?_
  rotate_left
  · (try dsimp only at hSw); go_simp; (try with_reducible rfl)
  try simp only [Act.put, List.setIfInBounds_toArray, List.set_cons_zero, List.set_cons_succ]
  refine wpAnyZ_ready (rs := [6]) (by kernel_rfl) (by simp) ?_
  refine AllReadyZ.cons (opAt rfl) (fun K hK => ?_) ?_
  · skip
    go_simp
    refine (C.out _).mono ?_
    rintro e w1 ⟨rfl, hb1⟩
    have hc := fun (q : Addr) v (h : w.drew.cell? q = some v) => cell_old hb1 h
    replace bm := hc _ _ bm
    replace bs := hc _ _ bs
    replace m0 := hc _ _ m0
    replace m1 := hc _ _ m1
    replace m2 := hc _ _ m2
    replace m3 := hc _ _ m3
    replace m4 := hc _ _ m4
    clear hc
    replace B := B.drew.trans (hb1.mono B.drew.size)
    clear hb1
    try go_wp2_with fail
    refine hK.out _ _ (by exact ⟨bm, bs, m0, m1, m2, m3, m4⟩) (fun hHeld => ?_)
    clear hK K
    try simp only [Act.put, List.setIfInBounds_toArray, List.set_cons_zero, List.set_cons_succ]
    refine' wpAnyZ_takeA (i := 7) (v := ?_) (opAt rfl) (by kernel_rfl) (by kernel_rfl) (by kernel_rfl) (by kernel_rfl) (fun _ _ _ h => h) (by assumption) (by rfl) (fun w hSw => ?_) ?_
    rotate_left
    · (try dsimp only at hSw); go_simp; (try with_reducible rfl)
    try simp only [Act.put, List.setIfInBounds_toArray, List.set_cons_zero, List.set_cons_succ]
    refine wpAnyZ_done (by kernel_rfl) ?_ _
    go_wp2_with fail
    go_ret
    exact ⟨rfl, B⟩
  exact AllReadyZ.nil
theorem rowK_any (gm gw bb : Nat) (s t f l p k : Int) (ws : List Int) (n : Nat) (kn : Int) (wx : World) (hs : 1 ≤ s ∧ s ≤ 1000) (ht : 1 ≤ t ∧ t ≤ 64) (hf : 4 ≤ f ∧ f ≤ 64) (hk : 0 ≤ k ∧ k ≤ s) (hn : (n : Int) ≤ f) (hkn : kn = (n : Int)) (M : MemOk wx gm gw s t f l p ws) (bm : Blk wx bb 36 #[.pointer (some ⟨gm, 0, none⟩)]) (bs : Blk wx (bb + 1) 3 #[.int .i64 k]) :
    Calls Tryd.prog 78 #[.pointer (some ⟨gm, 0, none⟩), .int .i64 kn, .func (.func 79) #[] #[.pointer (some ⟨bb, 0, none⟩), .pointer (some ⟨bb + 1, 0, none⟩)]] wx fun e w' => (∃ A c, e = .returned (.slice A n c) ∧ w'.ownsRow wx.heap.size 24 1 (.slice A n c) n (ints .u64 (rowL ws (fun i => nB t f k + 3 + i) n))) ∧ Below wx.heap.size wx w' := by
  subst hkn
  exact arow_any gm gw 79 s t f l p ws n #[.pointer (some ⟨bb, 0, none⟩), .pointer (some ⟨bb + 1, 0, none⟩)] (fun i => nB t f k + 3 + i) wx (by omega) M (enters_of (P := Tryd.prog) Tryd.func79 (by kernel_rfl) rfl)
    (fun i w2 hi hb => akey1_any gm gw bb (bb + 1) s t f l p k i ws w2 hs ht hf hk ⟨by omega, by omega⟩ (M.below hb) (cell_old hb (bm.cell 0)) (cell_old hb (bs.cell 0)))
theorem rowV_any (gm gw bb : Nat) (s t f l p k : Int) (ws : List Int) (n : Nat) (kn : Int) (wx : World) (hs : 1 ≤ s ∧ s ≤ 1000) (ht : 1 ≤ t ∧ t ≤ 64) (hf : 4 ≤ f ∧ f ≤ 64) (hk : 0 ≤ k ∧ k ≤ s) (hn : (n : Int) ≤ f) (hkn : kn = (n : Int)) (M : MemOk wx gm gw s t f l p ws) (bm : Blk wx bb 36 #[.pointer (some ⟨gm, 0, none⟩)]) (bs : Blk wx (bb + 1) 3 #[.int .i64 k]) :
    Calls Tryd.prog 78 #[.pointer (some ⟨gm, 0, none⟩), .int .i64 kn, .func (.func 81) #[] #[.pointer (some ⟨bb, 0, none⟩), .pointer (some ⟨bb + 1, 0, none⟩)]] wx fun e w' => (∃ A c, e = .returned (.slice A n c) ∧ w'.ownsRow wx.heap.size 24 1 (.slice A n c) n (ints .u64 (rowL ws (fun i => nB t f k + 3 + f + i) n))) ∧ Below wx.heap.size wx w' := by
  subst hkn
  exact arow_any gm gw 81 s t f l p ws n #[.pointer (some ⟨bb, 0, none⟩), .pointer (some ⟨bb + 1, 0, none⟩)] (fun i => nB t f k + 3 + f + i) wx (by omega) M (enters_of (P := Tryd.prog) Tryd.func81 (by kernel_rfl) rfl)
    (fun i w2 hi hb => aval1_any gm gw bb (bb + 1) s t f l p k i ws w2 hs ht hf hk ⟨by omega, by omega⟩ (M.below hb) (cell_old hb (bm.cell 0)) (cell_old hb (bs.cell 0)))
end Go.Proofs.YtlnckjemfabckaaDoor

/-
  arena.Node of any slot: what its words tell.
-/
namespace Go.Proofs.YtlnckjemfabckaaDoor
open Go.RowKit Go.Shelf

/-- What a slot's words tell: inner, how many entries, keys, values, link. -/
def nodI (ws : List Int) (t f k : Int) : Bool := innB (wGet ws (nB t f k + 1))
def nodN (ws : List Int) (t f k : Int) : Nat := (ents (wGet ws (nB t f k + 1)) f).toNat
def nodKn (ws : List Int) (t f k : Int) : Nat := if nodI ws t f k = true then nodN ws t f k - 1 else nodN ws t f k
def nodK (ws : List Int) (t f k : Int) : List Int := rowL ws (fun i => nB t f k + 3 + i) (nodKn ws t f k)
def nodV (ws : List Int) (t f k : Int) : List Int := rowL ws (fun i => nB t f k + 3 + f + i) (nodN ws t f k)
def nodL (ws : List Int) (t f k : Int) : Int := wGet ws (nB t f k + 2)
theorem ents_bd {x f : Int} (hx : W64 x) (hf : 4 ≤ f ∧ f ≤ 64) : 0 ≤ ents x f ∧ ents x f ≤ f := by
  obtain ⟨h0, h1⟩ := hx
  unfold ents
  split <;> (try split) <;> omega
theorem nodN_le {ws : List Int} {t f k : Int} (h64 : AllW64 ws) (hf : 4 ≤ f ∧ f ≤ 64) : (nodN ws t f k : Int) ≤ f := by
  have := ents_bd (wGet_w64 h64 (nB t f k + 1)) hf
  unfold nodN
  omega
theorem nodN_eq {ws : List Int} {t f k : Int} (h64 : AllW64 ws) (hf : 4 ≤ f ∧ f ≤ 64) : ents (wGet ws (nB t f k + 1)) f = (nodN ws t f k : Int) := by
  have := ents_bd (wGet_w64 h64 (nB t f k + 1)) hf
  unfold nodN
  omega
theorem nodKn_le (ws : List Int) (t f k : Int) : nodKn ws t f k ≤ nodN ws t f k := by
  unfold nodKn
  split <;> omega
/-- Behind the making of the node. -/
structure After5 (gm gw gx b : Nat) (s t f l p k : Int) (ws : List Int) (inn : Bool) (lk : Int) (w wx : World) : Prop where
  bn : Blk wx gx 94 #[.bool inn, .slice none 0 0, .slice none 0 0, .int .u64 lk]
  M : MemOk wx gm gw s t f l p ws
  bm : Blk wx b 36 #[.pointer (some ⟨gm, 0, none⟩)]
  bs : Blk wx (b + 1) 3 #[.int .i64 k]
  bx : Blk wx (b + 1 + 1) 94 #[.bool false, .slice none 0 0, .slice none 0 0, .int .u64 0]
  B : Below w.heap.size w wx
  g1 : gm ≠ gx ∧ gw ≠ gx
  g2 : b + 1 + 1 < gx
set_option maxRecDepth 100000 in
set_option maxHeartbeats 4000000 in
theorem anode_no (gm gw : Nat) (s t f l p k : Int) (ws : List Int) (w : World) (hs : 1 ≤ s ∧ s ≤ 1000) (ht : 1 ≤ t ∧ t ≤ 64) (hf : 4 ≤ f ∧ f ≤ 64) (hk : k < 0 ∨ s < k) (M : MemOk w gm gw s t f l p ws) :
    Calls Tryd.prog 56 #[.pointer (some ⟨gm, 0, none⟩), .int .i64 k] w fun e w' => e = .returned (.agg #[.bool false, .slice none 0 0, .slice none 0 0, .int .u64 0]) ∧ Below w.heap.size w w' := by
  have CV := hide (fun w2 => lver_any s t f l p k w2 hs ht hf)
  rw [atpB_6no hk] at CV
  clear hs ht hf hk
  have bm := Blk.new w 36 #[.pointer (some ⟨gm, 0, none⟩)]
  have bs := Blk.new (w.alloc (.cells #[.pointer (some ⟨gm, 0, none⟩)] 36)) 3 #[.int .i64 k]
  have bx := Blk.new ((w.alloc (.cells #[.pointer (some ⟨gm, 0, none⟩)] 36)).alloc (.cells #[.int .i64 k] 3)) 94 #[.bool false, .slice none 0 0, .slice none 0 0, .int .u64 0]
  have B := (Below.refl w.heap.size w).alloc (Nat.le_refl _) (.cells #[.pointer (some ⟨gm, 0, none⟩)] 36)
  replace B := B.alloc B.size (.cells #[.int .i64 k] 3)
  replace B := B.alloc B.size (.cells #[.bool false, .slice none 0 0, .slice none 0 0, .int .u64 0] 94)
  replace bm := (bm.alloc (.cells #[.int .i64 k] 3)).alloc (.cells #[.bool false, .slice none 0 0, .slice none 0 0, .int .u64 0] 94)
  replace bs := bs.alloc (.cells #[.bool false, .slice none 0 0, .slice none 0 0, .int .u64 0] 94)
  simp only [World.size_alloc] at bs bx
  replace M := M.below B
  go_enter Tryd.func56, Tryd.ntmps56
  go_wp2_with fail
  generalize ((w.alloc (.cells #[.pointer (some ⟨gm, 0, none⟩)] 36)).alloc (.cells #[.int .i64 k] 3)).alloc (.cells #[.bool false, .slice none 0 0, .slice none 0 0, .int .u64 0] 94) = w0 at *
  obtain ⟨b, hb⟩ : ∃ b, b = w.heap.size := ⟨_, rfl⟩
  rw [← hb] at bm bs bx ⊢
  have HBE := hide hb
  clear hb
  refine wp_region_heldZ [] (fun w' => w'.cell? ⟨b, 0, none⟩ = some (.pointer (some ⟨gm, 0, none⟩)) ∧ w'.cell? ⟨b + 1, 0, none⟩ = some (.int .i64 k) ∧ w'.cell? ⟨gm, 0, none⟩ = some (.int .i64 s) ∧ w'.cell? ⟨gm, 1, none⟩ = some (.int .i64 t) ∧ w'.cell? ⟨gm, 2, none⟩ = some (.int .i64 f) ∧ w'.cell? ⟨gm, 3, none⟩ = some (.int .i64 l) ∧ w'.cell? ⟨gm, 4, none⟩ = some (.int .i64 p)) (by kernel_rfl) (by exact ⟨bm.cell 0, bs.cell 0, mem5 M⟩) (fun hHeld => ?_)
  replace M := M.drew
  replace bm := bm.drew
  replace bs := bs.drew
  replace bx := bx.drew
  replace B := B.drew
  generalize w0.drew = w0x at *
  refine' wpAnyZ_takeA (i := 0) (v := ?_) (opAt rfl) (by kernel_rfl) (by kernel_rfl) (by kernel_rfl) (by kernel_rfl) (fun _ _ _ h => h) (by assumption) (by rfl) (fun w hSw => ?_) ?_
  rotate_left
  · (try dsimp only at hSw); go_simp; (try with_reducible rfl)
  try simp only [Act.put, List.setIfInBounds_toArray, List.set_cons_zero, List.set_cons_succ]
  refine' wpAnyZ_takeA (i := 1) (v := ?_) (opAt rfl) (by kernel_rfl) (by kernel_rfl) (by kernel_rfl) (by kernel_rfl) (fun _ _ _ h => h) (by assumption) (by rfl) (fun w hSw => ?_) ?_
  rotate_left
  · (try dsimp only at hSw); go_simp; (try with_reducible rfl)
  try simp only [Act.put, List.setIfInBounds_toArray, List.set_cons_zero, List.set_cons_succ]
  refine' wpAnyZ_takeA (i := 2) (v := ?_) (opAt rfl) (by kernel_rfl) (by kernel_rfl) (by kernel_rfl) (by kernel_rfl) (fun _ _ _ h => h) (by assumption) (by rfl) (fun w hSw => ?_) ?_
  rotate_left
  · (try dsimp only at hSw); go_simp; (try with_reducible rfl)
  try simp only [Act.put, List.setIfInBounds_toArray, List.set_cons_zero, List.set_cons_succ]
  refine' wpAnyZ_takeA (i := 3) (v := ?_) (opAt rfl) (by kernel_rfl) (by kernel_rfl) (by kernel_rfl) (by kernel_rfl) (fun _ _ _ h => h) (by assumption) (by rfl) (fun w hSw => ?_) ?_
  rotate_left
  · (try dsimp only at hSw); go_simp; (try with_reducible rfl)
  try simp only [Act.put, List.setIfInBounds_toArray, List.set_cons_zero, List.set_cons_succ]
  refine' wpAnyZ_takeA (i := 4) (v := ?_) (opAt rfl) (by kernel_rfl) (by kernel_rfl) (by kernel_rfl) (by kernel_rfl) (fun _ _ _ h => h) (by assumption) (by rfl) (fun w hSw => ?_) ?_
  rotate_left
  · (try dsimp only at hSw); go_simp; (try with_reducible rfl)
  try simp only [Act.put, List.setIfInBounds_toArray, List.set_cons_zero, List.set_cons_succ]
  refine' wpAnyZ_takeA (i := 5) (v := ?_) (opAt rfl) (by kernel_rfl) (by kernel_rfl) (by kernel_rfl) (by kernel_rfl) (fun _ _ _ h => h) (by assumption) (by rfl) (fun w hSw => ?_) ?_
  rotate_left
  · (try dsimp only at hSw); go_simp; (try with_reducible rfl)
  try simp only [Act.put, List.setIfInBounds_toArray, List.set_cons_zero, List.set_cons_succ]
  refine' wpAnyZ_takeA (i := 6) (v := ?_) (opAt rfl) (by kernel_rfl) (by kernel_rfl) (by kernel_rfl) (by kernel_rfl) (fun _ _ _ h => h) (by assumption) (by rfl) (fun w hSw => ?_) ?_
  rotate_left
  · (try dsimp only at hSw); go_simp; (try with_reducible rfl)
  try simp only [Act.put, List.setIfInBounds_toArray, List.set_cons_zero, List.set_cons_succ]
  refine' wpAnyZ_takeA (i := 7) (v := ?_) (opAt rfl) (by kernel_rfl) (by kernel_rfl) (by kernel_rfl) (by kernel_rfl) (fun _ _ _ h => h) (by assumption) (by rfl) (fun w hSw => ?_) ?_
  rotate_left
  · (try dsimp only at hSw); go_simp; (try with_reducible rfl)
  try simp only [Act.put, List.setIfInBounds_toArray, List.set_cons_zero, List.set_cons_succ]
  refine wpAnyZ_ready (rs := [8]) (by kernel_rfl) (by simp) ?_
  refine AllReadyZ.cons (opAt rfl) (fun K hK => ?_) ?_
  · skip
    go_simp
    refine (CV.out _).mono ?_
    rintro e w1 ⟨rfl, hb1⟩
    replace M := M.below hb1
    replace bm := bm.below hb1 bm.lt
    replace bs := bs.below hb1 bs.lt
    replace bx := bx.below hb1 bx.lt
    replace B := B.trans (hb1.mono B.size)
    clear hb1
    try go_wp2_with fail
    refine hK.out _ _ (by exact ⟨bm.cell 0, bs.cell 0, mem5 M⟩) (fun hHeld => ?_)
    clear hK K
    try simp only [Act.put, List.setIfInBounds_toArray, List.set_cons_zero, List.set_cons_succ]
    refine' wpAnyZ_takeA (i := 9) (v := ?_) (opAt rfl) (by kernel_rfl) (by kernel_rfl) (by kernel_rfl) (by kernel_rfl) (fun _ _ _ h => h) (by assumption) (by rfl) (fun w hSw => ?_) ?_
    rotate_left
    · (try dsimp only at hSw); go_simp; (try with_reducible rfl)
    try simp only [Act.put, List.setIfInBounds_toArray, List.set_cons_zero, List.set_cons_succ]
    refine' wpAnyZ_takeA (i := 10) (v := ?_) (opAt rfl) (by kernel_rfl) (by kernel_rfl) (by kernel_rfl) (by kernel_rfl) (fun _ _ _ h => h) (by assumption) (by rfl) (fun w hSw => ?_) ?_
    rotate_left
    · (try dsimp only at hSw); go_simp; (try with_reducible rfl)
    try simp only [Act.put, List.setIfInBounds_toArray, List.set_cons_zero, List.set_cons_succ]
    refine wpAnyZ_done (by kernel_rfl) ?_ _
    have zx := fun j => bx.frozen j
    have mx := fun j => bx.cell j
    go_wp2_with fail
    have p9 := (((bx.set_ 0 (.bool false)).set_ 1 (.slice none 0 0)).set_ 2 (.slice none 0 0)).set_ 3 (.int .u64 0)
    have m9 := fun j => p9.cell j
    have C9 := B.setCell (p := ⟨b + 1 + 1, 0, none⟩) (by have h2 := HBE.out; show w.heap.size ≤ b + 1 + 1; omega) (.bool false)
    replace C9 := C9.setCell (p := ⟨b + 1 + 1, 1, none⟩) (by have h2 := HBE.out; show w.heap.size ≤ b + 1 + 1; omega) (.slice none 0 0)
    replace C9 := C9.setCell (p := ⟨b + 1 + 1, 2, none⟩) (by have h2 := HBE.out; show w.heap.size ≤ b + 1 + 1; omega) (.slice none 0 0)
    replace C9 := C9.setCell (p := ⟨b + 1 + 1, 3, none⟩) (by have h2 := HBE.out; show w.heap.size ≤ b + 1 + 1; omega) (.int .u64 0)
    refine bodyPost_ret (v := .agg #[.bool false, .slice none 0 0, .slice none 0 0, .int .u64 0]) (by simp [results, Tryd.results56, go_sem, m9, List.setIfInBounds_toArray]) rfl ⟨rfl, by first | exact C9 | exact C9.drew⟩
  exact AllReadyZ.nil
set_option maxRecDepth 100000 in
set_option maxHeartbeats 1000000 in
theorem anode_nil (k : Int) (w : World) :
    Calls Tryd.prog 56 #[.pointer none, .int .i64 k] w fun e w' => e = .returned (.agg #[.bool false, .slice none 0 0, .slice none 0 0, .int .u64 0]) ∧ Below w.heap.size w w' := by
  have bm := Blk.new w 36 #[.pointer none]
  have bs := Blk.new (w.alloc (.cells #[.pointer none] 36)) 3 #[.int .i64 k]
  have bx := Blk.new ((w.alloc (.cells #[.pointer none] 36)).alloc (.cells #[.int .i64 k] 3)) 94 #[.bool false, .slice none 0 0, .slice none 0 0, .int .u64 0]
  have B := (Below.refl w.heap.size w).alloc (Nat.le_refl _) (.cells #[.pointer none] 36)
  replace B := B.alloc B.size (.cells #[.int .i64 k] 3)
  replace B := B.alloc B.size (.cells #[.bool false, .slice none 0 0, .slice none 0 0, .int .u64 0] 94)
  replace bm := (bm.alloc (.cells #[.int .i64 k] 3)).alloc (.cells #[.bool false, .slice none 0 0, .slice none 0 0, .int .u64 0] 94)
  replace bs := bs.alloc (.cells #[.bool false, .slice none 0 0, .slice none 0 0, .int .u64 0] 94)
  simp only [World.size_alloc] at bs bx
  go_enter Tryd.func56, Tryd.ntmps56
  go_wp2_with fail
  generalize ((w.alloc (.cells #[.pointer none] 36)).alloc (.cells #[.int .i64 k] 3)).alloc (.cells #[.bool false, .slice none 0 0, .slice none 0 0, .int .u64 0] 94) = w0 at *
  obtain ⟨b, hb⟩ : ∃ b, b = w.heap.size := ⟨_, rfl⟩
  rw [← hb] at bm bs bx ⊢
  have HBE := hide hb
  clear hb
  refine wp_region_heldZ [] (fun w' => w'.cell? ⟨b, 0, none⟩ = some (.pointer none) ∧ w'.cell? ⟨b + 1, 0, none⟩ = some (.int .i64 k)) (by kernel_rfl) (by exact ⟨bm.cell 0, bs.cell 0⟩) (fun hHeld => ?_)
  replace bm := bm.drew
  replace bs := bs.drew
  replace bx := bx.drew
  replace B := B.drew
  generalize w0.drew = w0x at *
  refine' wpAnyZ_takeA (i := 0) (v := ?_) (opAt rfl) (by kernel_rfl) (by kernel_rfl) (by kernel_rfl) (by kernel_rfl) (fun _ _ _ h => h) (by assumption) (by rfl) (fun w hSw => ?_) ?_
  rotate_left
  · (try dsimp only at hSw); go_simp; (try with_reducible rfl)
  try simp only [Act.put, List.setIfInBounds_toArray, List.set_cons_zero, List.set_cons_succ]
  refine' wpAnyZ_takeA (i := 1) (v := ?_) (opAt rfl) (by kernel_rfl) (by kernel_rfl) (by kernel_rfl) (by kernel_rfl) (fun _ _ _ h => h) (by assumption) (by rfl) (fun w hSw => ?_) ?_
  rotate_left
  · (try dsimp only at hSw); go_simp; (try with_reducible rfl)
  try simp only [Act.put, List.setIfInBounds_toArray, List.set_cons_zero, List.set_cons_succ]
  refine' wpAnyZ_takeA (i := 2) (v := ?_) (opAt rfl) (by kernel_rfl) (by kernel_rfl) (by kernel_rfl) (by kernel_rfl) (fun _ _ _ h => h) (by assumption) (by rfl) (fun w hSw => ?_) ?_
  rotate_left
  · (try dsimp only at hSw); go_simp; (try with_reducible rfl)
  try simp only [Act.put, List.setIfInBounds_toArray, List.set_cons_zero, List.set_cons_succ]
  refine' wpAnyZ_skipA (i := 3) _ rfl (opAt rfl) (by kernel_rfl) (by kernel_rfl) (by kernel_rfl) (by kernel_rfl) (fun _ _ _ h => h) (by assumption) (by rfl) ?_
  try simp only [Act.put, List.setIfInBounds_toArray, List.set_cons_zero, List.set_cons_succ]
  refine' wpAnyZ_skipA (i := 4) _ rfl (opAt rfl) (by kernel_rfl) (by kernel_rfl) (by kernel_rfl) (by kernel_rfl) (fun _ _ _ h => h) (by assumption) (by rfl) ?_
  try simp only [Act.put, List.setIfInBounds_toArray, List.set_cons_zero, List.set_cons_succ]
  refine' wpAnyZ_skipA (i := 5) _ rfl (opAt rfl) (by kernel_rfl) (by kernel_rfl) (by kernel_rfl) (by kernel_rfl) (fun _ _ _ h => h) (by assumption) (by rfl) ?_
  try simp only [Act.put, List.setIfInBounds_toArray, List.set_cons_zero, List.set_cons_succ]
  refine' wpAnyZ_skipA (i := 6) _ rfl (opAt rfl) (by kernel_rfl) (by kernel_rfl) (by kernel_rfl) (by kernel_rfl) (fun _ _ _ h => h) (by assumption) (by rfl) ?_
  try simp only [Act.put, List.setIfInBounds_toArray, List.set_cons_zero, List.set_cons_succ]
  refine' wpAnyZ_skipA (i := 7) _ rfl (opAt rfl) (by kernel_rfl) (by kernel_rfl) (by kernel_rfl) (by kernel_rfl) (fun _ _ _ h => h) (by assumption) (by rfl) ?_
  try simp only [Act.put, List.setIfInBounds_toArray, List.set_cons_zero, List.set_cons_succ]
  refine' wpAnyZ_skipA (i := 8) _ rfl (opAt rfl) (by kernel_rfl) (by kernel_rfl) (by kernel_rfl) (by kernel_rfl) (fun _ _ _ h => h) (by assumption) (by rfl) ?_
  try simp only [Act.put, List.setIfInBounds_toArray, List.set_cons_zero, List.set_cons_succ]
  refine' wpAnyZ_skipA (i := 9) _ rfl (opAt rfl) (by kernel_rfl) (by kernel_rfl) (by kernel_rfl) (by kernel_rfl) (fun _ _ _ h => h) (by assumption) (by rfl) ?_
  try simp only [Act.put, List.setIfInBounds_toArray, List.set_cons_zero, List.set_cons_succ]
  refine' wpAnyZ_takeA (i := 10) (v := ?_) (opAt rfl) (by kernel_rfl) (by kernel_rfl) (by kernel_rfl) (by kernel_rfl) (fun _ _ _ h => h) (by assumption) (by rfl) (fun w hSw => ?_) ?_
  rotate_left
  · (try dsimp only at hSw); go_simp; (try with_reducible rfl)
  try simp only [Act.put, List.setIfInBounds_toArray, List.set_cons_zero, List.set_cons_succ]
  refine wpAnyZ_done (by kernel_rfl) ?_ _
  have zx := fun j => bx.frozen j
  have mx := fun j => bx.cell j
  go_wp2_with fail
  have p9 := (((bx.set_ 0 (.bool false)).set_ 1 (.slice none 0 0)).set_ 2 (.slice none 0 0)).set_ 3 (.int .u64 0)
  have m9 := fun j => p9.cell j
  have C9 := B.setCell (p := ⟨b + 1 + 1, 0, none⟩) (by have h2 := HBE.out; show w.heap.size ≤ b + 1 + 1; omega) (.bool false)
  replace C9 := C9.setCell (p := ⟨b + 1 + 1, 1, none⟩) (by have h2 := HBE.out; show w.heap.size ≤ b + 1 + 1; omega) (.slice none 0 0)
  replace C9 := C9.setCell (p := ⟨b + 1 + 1, 2, none⟩) (by have h2 := HBE.out; show w.heap.size ≤ b + 1 + 1; omega) (.slice none 0 0)
  replace C9 := C9.setCell (p := ⟨b + 1 + 1, 3, none⟩) (by have h2 := HBE.out; show w.heap.size ≤ b + 1 + 1; omega) (.int .u64 0)
  refine bodyPost_ret (v := .agg #[.bool false, .slice none 0 0, .slice none 0 0, .int .u64 0]) (by simp [results, Tryd.results56, go_sem, m9, List.setIfInBounds_toArray]) rfl ⟨rfl, by first | exact C9 | exact C9.drew⟩
set_option maxRecDepth 100000 in
set_option maxHeartbeats 4000000 in
theorem anode_yes (gm gw : Nat) (s t f l p k : Int) (ws : List Int) (w : World) (hs : 1 ≤ s ∧ s ≤ 1000) (ht : 1 ≤ t ∧ t ≤ 64) (hf : 4 ≤ f ∧ f ≤ 64) (hk : 0 ≤ k ∧ k ≤ s) (M : MemOk w gm gw s t f l p ws) (h64 : AllW64 ws) :
    Calls Tryd.prog 56 #[.pointer (some ⟨gm, 0, none⟩), .int .i64 k] w fun e w' => (∃ v, e = .returned v ∧ NdO w' w.heap.size v (nodI ws t f k) (nodK ws t f k) (nodV ws t f k) (nodL ws t f k)) ∧ Below w.heap.size w w' := by
  have b := nB_bd hs ht hf hk
  have CV := hide (fun w2 => lver_any s t f l p k w2 hs ht hf)
  have CS := hide (fun w2 => lshp_any s t f l p k w2 hs ht hf)
  have CN := hide (fun w2 => llnk_any s t f l p k w2 hs ht hf)
  rw [atpB_6 hk] at CV
  rw [atpB_7 hk] at CS
  rw [atpB_8 hk] at CN
  have W1 := hide (fun w2 (h : MemOk w2 gm gw s t f l p ws) => word_any gm gw s t f l p (nB t f k + 1) ws w2 h)
  have W2 := hide (fun w2 (h : MemOk w2 gm gw s t f l p ws) => word_any gm gw s t f l p (nB t f k + 2) ws w2 h)
  have CC := hide (fun w2 => lconfig_any s t f l p w2)
  have EN := hide (fun w2 => entries_any (wGet ws (nB t f k + 1)) f w2 (wGet_w64 h64 _) ⟨by omega, by omega⟩)
  rw [nodN_eq h64 hf] at EN
  have IN := hide (fun w2 => inner_any (wGet ws (nB t f k + 1)) w2 (wGet_w64 h64 _))
  rw [show innB (wGet ws (nB t f k + 1)) = nodI ws t f k from rfl] at IN
  rw [show wGet ws (nB t f k + 2) = nodL ws t f k from rfl] at W2
  have hNf := nodN_le (t := t) (k := k) h64 hf
  have RK := hide (fun (bb n : Nat) (kn : Int) (hn : n ≤ nodN ws t f k) (hkn : kn = (n : Int)) (wx : World) (M : MemOk wx gm gw s t f l p ws) (bm : Blk wx bb 36 #[.pointer (some ⟨gm, 0, none⟩)]) (bs : Blk wx (bb + 1) 3 #[.int .i64 k]) => rowK_any gm gw bb s t f l p k ws n kn wx hs ht hf hk (by omega) hkn M bm bs)
  have RV := hide (fun (bb n : Nat) (kn : Int) (hn : n ≤ nodN ws t f k) (hkn : kn = (n : Int)) (wx : World) (M : MemOk wx gm gw s t f l p ws) (bm : Blk wx bb 36 #[.pointer (some ⟨gm, 0, none⟩)]) (bs : Blk wx (bb + 1) 3 #[.int .i64 k]) => rowV_any gm gw bb s t f l p k ws n kn wx hs ht hf hk (by omega) hkn M bm bs)
  have hf2 : ∀ w : World, (Instr.field 39 (.agg #[.int .i64 s, .int .i64 t, .int .i64 f, .int .i64 l, .int .i64 p]) 2).run Tryd.prog w = .ok (.int .i64 f) w := fun _ => by kernel_rfl
  have d1 : decide (nB t f k < 0) = false := by rw [decide_eq_false_iff_not]; omega
  have HKE := hide (show nodK ws t f k = rowL ws (fun i => nB t f k + 3 + i) (nodKn ws t f k) from rfl)
  have HVE := hide (show nodV ws t f k = rowL ws (fun i => nB t f k + 3 + f + i) (nodN ws t f k) from rfl)
  have HNK := hide (show nodKn ws t f k = if nodI ws t f k = true then nodN ws t f k - 1 else nodN ws t f k from rfl)
  generalize wGet ws (nB t f k + 1) = x1 at *
  generalize nB t f k + 1 = a1 at *
  generalize nB t f k + 2 = a2 at *
  generalize nodI ws t f k = inn at *
  generalize nodN ws t f k = N at *
  generalize nodL ws t f k = lk at *
  generalize nodKn ws t f k = NK at *
  generalize nodK ws t f k = ks at *
  generalize nodV ws t f k = vs at *
  generalize (fun i : Nat => nB t f k + 3 + f + (i : Int)) = gv at *
  generalize (fun i : Nat => nB t f k + 3 + (i : Int)) = gk at *
  generalize nB t f k = a0 at *
  clear b hk
  have HT := hide (And.intro hs (And.intro ht hf))
  have HNf := hide hNf
  clear hs ht hf hNf h64
  have bm := Blk.new w 36 #[.pointer (some ⟨gm, 0, none⟩)]
  have bs := Blk.new (w.alloc (.cells #[.pointer (some ⟨gm, 0, none⟩)] 36)) 3 #[.int .i64 k]
  have bx := Blk.new ((w.alloc (.cells #[.pointer (some ⟨gm, 0, none⟩)] 36)).alloc (.cells #[.int .i64 k] 3)) 94 #[.bool false, .slice none 0 0, .slice none 0 0, .int .u64 0]
  have B := (Below.refl w.heap.size w).alloc (Nat.le_refl _) (.cells #[.pointer (some ⟨gm, 0, none⟩)] 36)
  replace B := B.alloc B.size (.cells #[.int .i64 k] 3)
  replace B := B.alloc B.size (.cells #[.bool false, .slice none 0 0, .slice none 0 0, .int .u64 0] 94)
  replace bm := (bm.alloc (.cells #[.int .i64 k] 3)).alloc (.cells #[.bool false, .slice none 0 0, .slice none 0 0, .int .u64 0] 94)
  replace bs := bs.alloc (.cells #[.bool false, .slice none 0 0, .slice none 0 0, .int .u64 0] 94)
  simp only [World.size_alloc] at bs bx
  replace M := M.below B
  go_enter Tryd.func56, Tryd.ntmps56
  go_wp2_with fail
  generalize ((w.alloc (.cells #[.pointer (some ⟨gm, 0, none⟩)] 36)).alloc (.cells #[.int .i64 k] 3)).alloc (.cells #[.bool false, .slice none 0 0, .slice none 0 0, .int .u64 0] 94) = w0 at *
  obtain ⟨b, hb⟩ : ∃ b, b = w.heap.size := ⟨_, rfl⟩
  rw [← hb] at bm bs bx ⊢
  have HBE := hide hb
  clear hb
  refine wp_region_heldZ [] (fun w' => w'.cell? ⟨b, 0, none⟩ = some (.pointer (some ⟨gm, 0, none⟩)) ∧ w'.cell? ⟨b + 1, 0, none⟩ = some (.int .i64 k) ∧ w'.cell? ⟨gm, 0, none⟩ = some (.int .i64 s) ∧ w'.cell? ⟨gm, 1, none⟩ = some (.int .i64 t) ∧ w'.cell? ⟨gm, 2, none⟩ = some (.int .i64 f) ∧ w'.cell? ⟨gm, 3, none⟩ = some (.int .i64 l) ∧ w'.cell? ⟨gm, 4, none⟩ = some (.int .i64 p)) (by kernel_rfl) (by exact ⟨bm.cell 0, bs.cell 0, mem5 M⟩) (fun hHeld => ?_)
  replace M := M.drew
  replace bm := bm.drew
  replace bs := bs.drew
  replace bx := bx.drew
  replace B := B.drew
  generalize w0.drew = w0x at *
  refine' wpAnyZ_takeA (i := 0) (v := ?_) (opAt rfl) (by kernel_rfl) (by kernel_rfl) (by kernel_rfl) (by kernel_rfl) (fun _ _ _ h => h) (by assumption) (by rfl) (fun w hSw => ?_) ?_
  rotate_left
  · (try dsimp only at hSw); go_simp; (try with_reducible rfl)
  try simp only [Act.put, List.setIfInBounds_toArray, List.set_cons_zero, List.set_cons_succ]
  refine' wpAnyZ_takeA (i := 1) (v := ?_) (opAt rfl) (by kernel_rfl) (by kernel_rfl) (by kernel_rfl) (by kernel_rfl) (fun _ _ _ h => h) (by assumption) (by rfl) (fun w hSw => ?_) ?_
  rotate_left
  · (try dsimp only at hSw); go_simp; (try with_reducible rfl)
  try simp only [Act.put, List.setIfInBounds_toArray, List.set_cons_zero, List.set_cons_succ]
  refine' wpAnyZ_takeA (i := 2) (v := ?_) (opAt rfl) (by kernel_rfl) (by kernel_rfl) (by kernel_rfl) (by kernel_rfl) (fun _ _ _ h => h) (by assumption) (by rfl) (fun w hSw => ?_) ?_
  rotate_left
  · (try dsimp only at hSw); go_simp; (try with_reducible rfl)
  try simp only [Act.put, List.setIfInBounds_toArray, List.set_cons_zero, List.set_cons_succ]
  refine' wpAnyZ_takeA (i := 3) (v := ?_) (opAt rfl) (by kernel_rfl) (by kernel_rfl) (by kernel_rfl) (by kernel_rfl) (fun _ _ _ h => h) (by assumption) (by rfl) (fun w hSw => ?_) ?_
  rotate_left
  · (try dsimp only at hSw); go_simp; (try with_reducible rfl)
  try simp only [Act.put, List.setIfInBounds_toArray, List.set_cons_zero, List.set_cons_succ]
  refine' wpAnyZ_takeA (i := 4) (v := ?_) (opAt rfl) (by kernel_rfl) (by kernel_rfl) (by kernel_rfl) (by kernel_rfl) (fun _ _ _ h => h) (by assumption) (by rfl) (fun w hSw => ?_) ?_
  rotate_left
  · (try dsimp only at hSw); go_simp; (try with_reducible rfl)
  try simp only [Act.put, List.setIfInBounds_toArray, List.set_cons_zero, List.set_cons_succ]
  refine' wpAnyZ_takeA (i := 5) (v := ?_) (opAt rfl) (by kernel_rfl) (by kernel_rfl) (by kernel_rfl) (by kernel_rfl) (fun _ _ _ h => h) (by assumption) (by rfl) (fun w hSw => ?_) ?_
  rotate_left
  · (try dsimp only at hSw); go_simp; (try with_reducible rfl)
  try simp only [Act.put, List.setIfInBounds_toArray, List.set_cons_zero, List.set_cons_succ]
  refine' wpAnyZ_takeA (i := 6) (v := ?_) (opAt rfl) (by kernel_rfl) (by kernel_rfl) (by kernel_rfl) (by kernel_rfl) (fun _ _ _ h => h) (by assumption) (by rfl) (fun w hSw => ?_) ?_
  rotate_left
  · (try dsimp only at hSw); go_simp; (try with_reducible rfl)
  try simp only [Act.put, List.setIfInBounds_toArray, List.set_cons_zero, List.set_cons_succ]
  refine' wpAnyZ_takeA (i := 7) (v := ?_) (opAt rfl) (by kernel_rfl) (by kernel_rfl) (by kernel_rfl) (by kernel_rfl) (fun _ _ _ h => h) (by assumption) (by rfl) (fun w hSw => ?_) ?_
  rotate_left
  · (try dsimp only at hSw); go_simp; (try with_reducible rfl)
  try simp only [Act.put, List.setIfInBounds_toArray, List.set_cons_zero, List.set_cons_succ]
  refine wpAnyZ_ready (rs := [8]) (by kernel_rfl) (by simp) ?_
  refine AllReadyZ.cons (opAt rfl) (fun K hK => ?_) ?_
  · skip
    go_simp
    refine (CV.out _).mono ?_
    rintro e w1 ⟨rfl, hb1⟩
    replace M := M.below hb1
    replace bm := bm.below hb1 bm.lt
    replace bs := bs.below hb1 bs.lt
    replace bx := bx.below hb1 bx.lt
    replace B := B.trans (hb1.mono B.size)
    clear hb1
    try go_wp2_with fail
    refine hK.out _ _ (by exact ⟨bm.cell 0, bs.cell 0, mem5 M⟩) (fun hHeld => ?_)
    clear hK K
    try simp only [Act.put, List.setIfInBounds_toArray, List.set_cons_zero, List.set_cons_succ]
    refine' wpAnyZ_takeA (i := 9) (v := ?_) (opAt rfl) (by kernel_rfl) (by kernel_rfl) (by kernel_rfl) (by kernel_rfl) (fun _ _ _ h => h) (by assumption) (by rfl) (fun w hSw => ?_) ?_
    rotate_left
    · (try dsimp only at hSw); go_simp; (try with_reducible rfl)
    try simp only [Act.put, List.setIfInBounds_toArray, List.set_cons_zero, List.set_cons_succ]
    refine' wpAnyZ_takeA (i := 10) (v := ?_) (opAt rfl) (by kernel_rfl) (by kernel_rfl) (by kernel_rfl) (by kernel_rfl) (fun _ _ _ h => h) (by assumption) (by rfl) (fun w hSw => ?_) ?_
    rotate_left
    · (try dsimp only at hSw); go_simp; (try with_reducible rfl)
    try simp only [Act.put, List.setIfInBounds_toArray, List.set_cons_zero, List.set_cons_succ]
    refine wpAnyZ_done (by kernel_rfl) ?_ _
    go_wp2_with fail
    refine wp_region_heldZ [] (fun w' => w'.cell? ⟨b, 0, none⟩ = some (.pointer (some ⟨gm, 0, none⟩)) ∧ w'.cell? ⟨b + 1, 0, none⟩ = some (.int .i64 k) ∧ w'.cell? ⟨gm, 0, none⟩ = some (.int .i64 s) ∧ w'.cell? ⟨gm, 1, none⟩ = some (.int .i64 t) ∧ w'.cell? ⟨gm, 2, none⟩ = some (.int .i64 f) ∧ w'.cell? ⟨gm, 3, none⟩ = some (.int .i64 l) ∧ w'.cell? ⟨gm, 4, none⟩ = some (.int .i64 p)) (by kernel_rfl) (by exact ⟨bm.cell 0, bs.cell 0, mem5 M⟩) (fun hHeld => ?_)
    replace M := M.drew
    replace bm := bm.drew
    replace bs := bs.drew
    replace bx := bx.drew
    replace B := B.drew
    generalize w1.drew = w1x at *
    refine' wpAnyZ_takeA (i := 0) (v := ?_) (opAt rfl) (by kernel_rfl) (by kernel_rfl) (by kernel_rfl) (by kernel_rfl) (fun _ _ _ h => h) (by assumption) (by rfl) (fun w hSw => ?_) ?_
    rotate_left
    · (try dsimp only at hSw); go_simp; (try with_reducible rfl)
    try simp only [Act.put, List.setIfInBounds_toArray, List.set_cons_zero, List.set_cons_succ]
    refine' wpAnyZ_takeA (i := 1) (v := ?_) (opAt rfl) (by kernel_rfl) (by kernel_rfl) (by kernel_rfl) (by kernel_rfl) (fun _ _ _ h => h) (by assumption) (by rfl) (fun w hSw => ?_) ?_
    rotate_left
    · (try dsimp only at hSw); go_simp; (try with_reducible rfl)
    try simp only [Act.put, List.setIfInBounds_toArray, List.set_cons_zero, List.set_cons_succ]
    refine' wpAnyZ_takeA (i := 2) (v := ?_) (opAt rfl) (by kernel_rfl) (by kernel_rfl) (by kernel_rfl) (by kernel_rfl) (fun _ _ _ h => h) (by assumption) (by rfl) (fun w hSw => ?_) ?_
    rotate_left
    · (try dsimp only at hSw); go_simp; (try with_reducible rfl)
    try simp only [Act.put, List.setIfInBounds_toArray, List.set_cons_zero, List.set_cons_succ]
    refine' wpAnyZ_takeA (i := 3) (v := ?_) (opAt rfl) (by kernel_rfl) (by kernel_rfl) (by kernel_rfl) (by kernel_rfl) (fun _ _ _ h => h) (by assumption) (by rfl) (fun w hSw => ?_) ?_
    rotate_left
    · (try dsimp only at hSw); go_simp; (try with_reducible rfl)
    try simp only [Act.put, List.setIfInBounds_toArray, List.set_cons_zero, List.set_cons_succ]
    refine' wpAnyZ_takeA (i := 4) (v := ?_) (opAt rfl) (by kernel_rfl) (by kernel_rfl) (by kernel_rfl) (by kernel_rfl) (fun _ _ _ h => h) (by assumption) (by rfl) (fun w hSw => ?_) ?_
    rotate_left
    · (try dsimp only at hSw); go_simp; (try with_reducible rfl)
    try simp only [Act.put, List.setIfInBounds_toArray, List.set_cons_zero, List.set_cons_succ]
    refine' wpAnyZ_takeA (i := 5) (v := ?_) (opAt rfl) (by kernel_rfl) (by kernel_rfl) (by kernel_rfl) (by kernel_rfl) (fun _ _ _ h => h) (by assumption) (by rfl) (fun w hSw => ?_) ?_
    rotate_left
    · (try dsimp only at hSw); go_simp; (try with_reducible rfl)
    try simp only [Act.put, List.setIfInBounds_toArray, List.set_cons_zero, List.set_cons_succ]
    refine wpAnyZ_ready (rs := [6]) (by kernel_rfl) (by simp) ?_
    refine AllReadyZ.cons (opAt rfl) (fun K hK => ?_) ?_
    · skip
      go_simp
      refine (CS.out _).mono ?_
      rintro e w3 ⟨rfl, hb1⟩
      replace M := M.below hb1
      replace bm := bm.below hb1 bm.lt
      replace bs := bs.below hb1 bs.lt
      replace bx := bx.below hb1 bx.lt
      replace B := B.trans (hb1.mono B.size)
      clear hb1
      try go_wp2_with fail
      refine hK.out _ _ (by exact ⟨bm.cell 0, bs.cell 0, mem5 M⟩) (fun hHeld => ?_)
      clear hK K
      try simp only [Act.put, List.setIfInBounds_toArray, List.set_cons_zero, List.set_cons_succ]
      refine wpAnyZ_ready (rs := [7]) (by kernel_rfl) (by simp) ?_
      refine AllReadyZ.cons (opAt rfl) (fun K hK => ?_) ?_
      · skip
        go_simp
        refine (W1.out _ M).mono ?_
        rintro e w3x ⟨rfl, rfl⟩
        try go_wp2_with fail
        refine hK.out _ _ (by exact ⟨bm.cell 0, bs.cell 0, mem5 M⟩) (fun hHeld => ?_)
        clear hK K
        try simp only [Act.put, List.setIfInBounds_toArray, List.set_cons_zero, List.set_cons_succ]
        refine' wpAnyZ_takeA (i := 8) (v := ?_) (opAt rfl) (by kernel_rfl) (by kernel_rfl) (by kernel_rfl) (by kernel_rfl) (fun _ _ _ h => h) (by assumption) (by rfl) (fun w hSw => ?_) ?_
        rotate_left
        · (try dsimp only at hSw); go_simp; (try with_reducible rfl)
        try simp only [Act.put, List.setIfInBounds_toArray, List.set_cons_zero, List.set_cons_succ]
        refine wpAnyZ_done (by kernel_rfl) ?_ _
        have mm := bm.cell 0
        obtain ⟨m0, m1, m2, m3, m4⟩ := mem5 M
        go_wp2_with fail
        refine (CC.out _).mono ?_
        rintro e w4 ⟨rfl, hb1⟩
        clear mm m0 m1 m2 m3 m4
        replace M := M.below hb1
        replace bm := bm.below hb1 bm.lt
        replace bs := bs.below hb1 bs.lt
        replace bx := bx.below hb1 bx.lt
        replace B := B.trans (hb1.mono B.size)
        clear hb1
        go_wp2_with fail
        refine (EN.out _).mono ?_
        rintro e w4x ⟨rfl, rfl⟩
        go_upto_region 5 with fail
        go_cut [7] (fun s7 wx => ∃ gx : Nat, s7 = .pointer (some ⟨gx, 0, none⟩) ∧ After5 gm gw gx b s t f l p k ws inn lk w wx)
        case first =>
          refine wp_region_heldZ [12] (fun w' => w'.cell? ⟨b, 0, none⟩ = some (.pointer (some ⟨gm, 0, none⟩)) ∧ w'.cell? ⟨b + 1, 0, none⟩ = some (.int .i64 k) ∧ w'.cell? ⟨gm, 0, none⟩ = some (.int .i64 s) ∧ w'.cell? ⟨gm, 1, none⟩ = some (.int .i64 t) ∧ w'.cell? ⟨gm, 2, none⟩ = some (.int .i64 f) ∧ w'.cell? ⟨gm, 3, none⟩ = some (.int .i64 l) ∧ w'.cell? ⟨gm, 4, none⟩ = some (.int .i64 p)) (by kernel_rfl) (by exact ⟨bm.cell 0, bs.cell 0, mem5 M⟩) (fun hHeld => ?_)
          replace M := M.drew
          replace bm := bm.drew
          replace bs := bs.drew
          replace bx := bx.drew
          replace B := B.drew
          generalize w4.drew = w4d at *
          refine' wpAnyZ_takeA (i := 0) (v := ?_) (opAt rfl) (by kernel_rfl) (by kernel_rfl) (by kernel_rfl) (by kernel_rfl) (fun _ _ _ h => h) (by assumption) (by rfl) (fun w hSw => ?_) ?_
          rotate_left
          · (try dsimp only at hSw); go_simp; (try with_reducible rfl)
          try simp only [Act.put, List.setIfInBounds_toArray, List.set_cons_zero, List.set_cons_succ]
          refine' wpAnyZ_takeA (i := 2) (v := ?_) (opAt rfl) (by kernel_rfl) (by kernel_rfl) (by kernel_rfl) (by kernel_rfl) (fun _ _ _ h => h) (by assumption) (by rfl) (fun w hSw => ?_) ?_
          rotate_left
          · (try dsimp only at hSw); go_simp; (try with_reducible rfl)
          try simp only [Act.put, List.setIfInBounds_toArray, List.set_cons_zero, List.set_cons_succ]
          refine' wpAnyZ_takeA (i := 3) (v := ?_) (opAt rfl) (by kernel_rfl) (by kernel_rfl) (by kernel_rfl) (by kernel_rfl) (fun _ _ _ h => h) (by assumption) (by rfl) (fun w hSw => ?_) ?_
          rotate_left
          · (try dsimp only at hSw); go_simp; (try with_reducible rfl)
          try simp only [Act.put, List.setIfInBounds_toArray, List.set_cons_zero, List.set_cons_succ]
          refine' wpAnyZ_takeA (i := 4) (v := ?_) (opAt rfl) (by kernel_rfl) (by kernel_rfl) (by kernel_rfl) (by kernel_rfl) (fun _ _ _ h => h) (by assumption) (by rfl) (fun w hSw => ?_) ?_
          rotate_left
          · (try dsimp only at hSw); go_simp; (try with_reducible rfl)
          try simp only [Act.put, List.setIfInBounds_toArray, List.set_cons_zero, List.set_cons_succ]
          refine' wpAnyZ_takeA (i := 5) (v := ?_) (opAt rfl) (by kernel_rfl) (by kernel_rfl) (by kernel_rfl) (by kernel_rfl) (fun _ _ _ h => h) (by assumption) (by rfl) (fun w hSw => ?_) ?_
          rotate_left
          · (try dsimp only at hSw); go_simp; (try with_reducible rfl)
          try simp only [Act.put, List.setIfInBounds_toArray, List.set_cons_zero, List.set_cons_succ]
          refine' wpAnyZ_takeA (i := 6) (v := ?_) (opAt rfl) (by kernel_rfl) (by kernel_rfl) (by kernel_rfl) (by kernel_rfl) (fun _ _ _ h => h) (by assumption) (by rfl) (fun w hSw => ?_) ?_
          rotate_left
          · (try dsimp only at hSw); go_simp; (try with_reducible rfl)
          try simp only [Act.put, List.setIfInBounds_toArray, List.set_cons_zero, List.set_cons_succ]
          refine' wpAnyZ_takeA (i := 7) (v := ?_) (opAt rfl) (by kernel_rfl) (by kernel_rfl) (by kernel_rfl) (by kernel_rfl) (fun _ _ _ h => h) (by assumption) (by rfl) (fun w hSw => ?_) ?_
          rotate_left
          · (try dsimp only at hSw); go_simp; (try with_reducible rfl)
          try simp only [Act.put, List.setIfInBounds_toArray, List.set_cons_zero, List.set_cons_succ]
          refine wpAnyZ_ready (rs := [1, 11]) (by kernel_rfl) (by simp) ?_
          refine AllReadyZ.cons (opAt rfl) (fun K hK => ?_) ?_
          · skip
            go_simp
            refine (IN.out _).mono ?_
            rintro e wi ⟨rfl, rfl⟩
            try go_wp2_with fail
            refine hK.out _ _ (by exact ⟨bm.cell 0, bs.cell 0, mem5 M⟩) (fun hHeld => ?_)
            clear hK K
            try simp only [Act.put, List.setIfInBounds_toArray, List.set_cons_zero, List.set_cons_succ]
            refine wpAnyZ_ready (rs := [8, 11]) (by kernel_rfl) (by simp) ?_
            refine AllReadyZ.cons (opAt rfl) (fun K hK => ?_) ?_
            · skip
              go_simp
              refine (CN.out _).mono ?_
              rintro e w5 ⟨rfl, hb1⟩
              replace M := M.below hb1
              replace bm := bm.below hb1 bm.lt
              replace bs := bs.below hb1 bs.lt
              replace bx := bx.below hb1 bx.lt
              replace B := B.trans (hb1.mono B.size)
              clear hb1
              try go_wp2_with fail
              refine hK.out _ _ (by exact ⟨bm.cell 0, bs.cell 0, mem5 M⟩) (fun hHeld => ?_)
              clear hK K
              try simp only [Act.put, List.setIfInBounds_toArray, List.set_cons_zero, List.set_cons_succ]
              refine wpAnyZ_ready (rs := [9, 11]) (by kernel_rfl) (by simp) ?_
              refine AllReadyZ.cons (opAt rfl) (fun K hK => ?_) ?_
              · skip
                go_simp
                refine (W2.out _ M).mono ?_
                rintro e wj ⟨rfl, rfl⟩
                try go_wp2_with fail
                refine hK.out _ _ (by exact ⟨bm.cell 0, bs.cell 0, mem5 M⟩) (fun hHeld => ?_)
                clear hK K
                try simp only [Act.put, List.setIfInBounds_toArray, List.set_cons_zero, List.set_cons_succ]
                refine' wpAnyZ_takeA (i := 10) (v := ?_) (opAt rfl) (by kernel_rfl) (by kernel_rfl) (by kernel_rfl) (by kernel_rfl) (fun _ _ _ h => h) (by assumption) (by rfl) (fun w hSw => ?_) ?_
                rotate_left
                · (try dsimp only at hSw); go_simp; (try with_reducible rfl)
                try simp only [Act.put, List.setIfInBounds_toArray, List.set_cons_zero, List.set_cons_succ]
                refine wpAnyZ_ready (rs := [11]) (by kernel_rfl) (by simp) ?_
                refine AllReadyZ.cons (opAt rfl) (fun K hK => ?_) ?_
                · skip
                  go_simp
                  have bn := Blk.new w5 94 #[.bool false, .slice none 0 0, .slice none 0 0, .int .u64 0]
                  have HGX := hide (show b + 1 + 1 < w5.heap.size from bx.lt)
                  have HGM := hide (show gm < w5.heap.size ∧ gw < w5.heap.size from ⟨Blk.lt M.1, Blk.lt M.2.1⟩)
                  replace M := M.below ((Below.refl w5.heap.size w5).alloc (Nat.le_refl _) (.cells #[.bool false, .slice none 0 0, .slice none 0 0, .int .u64 0] 94))
                  replace bm := bm.alloc (.cells #[.bool false, .slice none 0 0, .slice none 0 0, .int .u64 0] 94)
                  replace bs := bs.alloc (.cells #[.bool false, .slice none 0 0, .slice none 0 0, .int .u64 0] 94)
                  replace bx := bx.alloc (.cells #[.bool false, .slice none 0 0, .slice none 0 0, .int .u64 0] 94)
                  replace B := B.alloc B.size (.cells #[.bool false, .slice none 0 0, .slice none 0 0, .int .u64 0] 94)
                  generalize w5.alloc (.cells #[.bool false, .slice none 0 0, .slice none 0 0, .int .u64 0] 94) = w6 at *
                  generalize w5.heap.size = gx at *
                  refine hK.out _ _ (by exact ⟨bm.cell 0, bs.cell 0, mem5 M⟩) (fun hHeld => ?_)
                  clear hK K
                  try simp only [Act.put, List.setIfInBounds_toArray, List.set_cons_zero, List.set_cons_succ]
                  refine wpAnyZ_ready (rs := [12]) (by kernel_rfl) (by simp) ?_
                  refine AllReadyZ.last (opAt rfl) (by kernel_rfl) (fun K hK => ?_) ?_
                  · skip
                    have zn := fun i => bn.frozen i
                    have mn := fun i => bn.cell i
                    go_simp
                    refine hK.out _ _ ?_
                    clear hK K
                    try simp only [Act.put, List.setIfInBounds_toArray, List.set_cons_zero, List.set_cons_succ]
                    refine wpAnyZ_done (by kernel_rfl) ?_ _
                    clear zn mn
                    replace bm := bm.far (p := ⟨gx, 0, none⟩) (by have := HGX.out; show b ≠ gx; omega) (.bool inn)
                    replace bm := bm.far (p := ⟨gx, 1, none⟩) (by have := HGX.out; show b ≠ gx; omega) (.slice none 0 0)
                    replace bm := bm.far (p := ⟨gx, 2, none⟩) (by have := HGX.out; show b ≠ gx; omega) (.slice none 0 0)
                    replace bm := bm.far (p := ⟨gx, 3, none⟩) (by have := HGX.out; show b ≠ gx; omega) (.int .u64 lk)
                    replace bs := bs.far (p := ⟨gx, 0, none⟩) (by have := HGX.out; show b + 1 ≠ gx; omega) (.bool inn)
                    replace bs := bs.far (p := ⟨gx, 1, none⟩) (by have := HGX.out; show b + 1 ≠ gx; omega) (.slice none 0 0)
                    replace bs := bs.far (p := ⟨gx, 2, none⟩) (by have := HGX.out; show b + 1 ≠ gx; omega) (.slice none 0 0)
                    replace bs := bs.far (p := ⟨gx, 3, none⟩) (by have := HGX.out; show b + 1 ≠ gx; omega) (.int .u64 lk)
                    replace bx := bx.far (p := ⟨gx, 0, none⟩) (by have := HGX.out; show b + 1 + 1 ≠ gx; omega) (.bool inn)
                    replace bx := bx.far (p := ⟨gx, 1, none⟩) (by have := HGX.out; show b + 1 + 1 ≠ gx; omega) (.slice none 0 0)
                    replace bx := bx.far (p := ⟨gx, 2, none⟩) (by have := HGX.out; show b + 1 + 1 ≠ gx; omega) (.slice none 0 0)
                    replace bx := bx.far (p := ⟨gx, 3, none⟩) (by have := HGX.out; show b + 1 + 1 ≠ gx; omega) (.int .u64 lk)
                    have HGN := hide (show gm ≠ gx ∧ gw ≠ gx by have := HGM.out; omega)
                    replace M := M.grown (grown_set _ gx 0 (.bool inn)) (fun e => by injection e with e; exact HGN.out.1 e) (fun e => by injection e with e; exact HGN.out.2 e)
                    replace M := M.grown (grown_set _ gx 1 (.slice none 0 0)) (fun e => by injection e with e; exact HGN.out.1 e) (fun e => by injection e with e; exact HGN.out.2 e)
                    replace M := M.grown (grown_set _ gx 2 (.slice none 0 0)) (fun e => by injection e with e; exact HGN.out.1 e) (fun e => by injection e with e; exact HGN.out.2 e)
                    replace M := M.grown (grown_set _ gx 3 (.int .u64 lk)) (fun e => by injection e with e; exact HGN.out.1 e) (fun e => by injection e with e; exact HGN.out.2 e)
                    replace B := below_setN (g := gx) B (by have h1 := HGX.out; have h2 := HBE.out; omega) (.bool inn) (.slice none 0 0) (.slice none 0 0) (.int .u64 lk)
                    replace bn := bn.setN (.bool inn) (.slice none 0 0) (.slice none 0 0) (.int .u64 lk)
                    generalize (((w6.setCell ⟨gx, 0, none⟩ (.bool inn)).setCell ⟨gx, 1, none⟩ (.slice none 0 0)).setCell ⟨gx, 2, none⟩ (.slice none 0 0)).setCell ⟨gx, 3, none⟩ (.int .u64 lk) = w7 at *
                    go_wp2_with fail
                    go_meet
                    exact ⟨gx, rfl, bn, M, bm, bs, bx, B, HGN.out, HGX.out⟩
                  exact AllReadyZ.nil
                exact AllReadyZ.nil
              refine AllReadyZ.cons (opAt rfl) (fun K hK => ?_) ?_
              · skip
                go_simp
                have bn := Blk.new w5 94 #[.bool false, .slice none 0 0, .slice none 0 0, .int .u64 0]
                have HGX := hide (show b + 1 + 1 < w5.heap.size from bx.lt)
                have HGM := hide (show gm < w5.heap.size ∧ gw < w5.heap.size from ⟨Blk.lt M.1, Blk.lt M.2.1⟩)
                replace M := M.below ((Below.refl w5.heap.size w5).alloc (Nat.le_refl _) (.cells #[.bool false, .slice none 0 0, .slice none 0 0, .int .u64 0] 94))
                replace bm := bm.alloc (.cells #[.bool false, .slice none 0 0, .slice none 0 0, .int .u64 0] 94)
                replace bs := bs.alloc (.cells #[.bool false, .slice none 0 0, .slice none 0 0, .int .u64 0] 94)
                replace bx := bx.alloc (.cells #[.bool false, .slice none 0 0, .slice none 0 0, .int .u64 0] 94)
                replace B := B.alloc B.size (.cells #[.bool false, .slice none 0 0, .slice none 0 0, .int .u64 0] 94)
                generalize w5.alloc (.cells #[.bool false, .slice none 0 0, .slice none 0 0, .int .u64 0] 94) = w6 at *
                generalize w5.heap.size = gx at *
                refine hK.out _ _ (by exact ⟨bm.cell 0, bs.cell 0, mem5 M⟩) (fun hHeld => ?_)
                clear hK K
                try simp only [Act.put, List.setIfInBounds_toArray, List.set_cons_zero, List.set_cons_succ]
                refine wpAnyZ_ready (rs := [9]) (by kernel_rfl) (by simp) ?_
                refine AllReadyZ.cons (opAt rfl) (fun K hK => ?_) ?_
                · skip
                  go_simp
                  refine (W2.out _ M).mono ?_
                  rintro e wj ⟨rfl, rfl⟩
                  try go_wp2_with fail
                  refine hK.out _ _ (by exact ⟨bm.cell 0, bs.cell 0, mem5 M⟩) (fun hHeld => ?_)
                  clear hK K
                  try simp only [Act.put, List.setIfInBounds_toArray, List.set_cons_zero, List.set_cons_succ]
                  refine' wpAnyZ_takeA (i := 10) (v := ?_) (opAt rfl) (by kernel_rfl) (by kernel_rfl) (by kernel_rfl) (by kernel_rfl) (fun _ _ _ h => h) (by assumption) (by rfl) (fun w hSw => ?_) ?_
                  rotate_left
                  · (try dsimp only at hSw); go_simp; (try with_reducible rfl)
                  try simp only [Act.put, List.setIfInBounds_toArray, List.set_cons_zero, List.set_cons_succ]
                  refine wpAnyZ_ready (rs := [12]) (by kernel_rfl) (by simp) ?_
                  refine AllReadyZ.last (opAt rfl) (by kernel_rfl) (fun K hK => ?_) ?_
                  · skip
                    have zn := fun i => bn.frozen i
                    have mn := fun i => bn.cell i
                    go_simp
                    refine hK.out _ _ ?_
                    clear hK K
                    try simp only [Act.put, List.setIfInBounds_toArray, List.set_cons_zero, List.set_cons_succ]
                    refine wpAnyZ_done (by kernel_rfl) ?_ _
                    clear zn mn
                    replace bm := bm.far (p := ⟨gx, 0, none⟩) (by have := HGX.out; show b ≠ gx; omega) (.bool inn)
                    replace bm := bm.far (p := ⟨gx, 1, none⟩) (by have := HGX.out; show b ≠ gx; omega) (.slice none 0 0)
                    replace bm := bm.far (p := ⟨gx, 2, none⟩) (by have := HGX.out; show b ≠ gx; omega) (.slice none 0 0)
                    replace bm := bm.far (p := ⟨gx, 3, none⟩) (by have := HGX.out; show b ≠ gx; omega) (.int .u64 lk)
                    replace bs := bs.far (p := ⟨gx, 0, none⟩) (by have := HGX.out; show b + 1 ≠ gx; omega) (.bool inn)
                    replace bs := bs.far (p := ⟨gx, 1, none⟩) (by have := HGX.out; show b + 1 ≠ gx; omega) (.slice none 0 0)
                    replace bs := bs.far (p := ⟨gx, 2, none⟩) (by have := HGX.out; show b + 1 ≠ gx; omega) (.slice none 0 0)
                    replace bs := bs.far (p := ⟨gx, 3, none⟩) (by have := HGX.out; show b + 1 ≠ gx; omega) (.int .u64 lk)
                    replace bx := bx.far (p := ⟨gx, 0, none⟩) (by have := HGX.out; show b + 1 + 1 ≠ gx; omega) (.bool inn)
                    replace bx := bx.far (p := ⟨gx, 1, none⟩) (by have := HGX.out; show b + 1 + 1 ≠ gx; omega) (.slice none 0 0)
                    replace bx := bx.far (p := ⟨gx, 2, none⟩) (by have := HGX.out; show b + 1 + 1 ≠ gx; omega) (.slice none 0 0)
                    replace bx := bx.far (p := ⟨gx, 3, none⟩) (by have := HGX.out; show b + 1 + 1 ≠ gx; omega) (.int .u64 lk)
                    have HGN := hide (show gm ≠ gx ∧ gw ≠ gx by have := HGM.out; omega)
                    replace M := M.grown (grown_set _ gx 0 (.bool inn)) (fun e => by injection e with e; exact HGN.out.1 e) (fun e => by injection e with e; exact HGN.out.2 e)
                    replace M := M.grown (grown_set _ gx 1 (.slice none 0 0)) (fun e => by injection e with e; exact HGN.out.1 e) (fun e => by injection e with e; exact HGN.out.2 e)
                    replace M := M.grown (grown_set _ gx 2 (.slice none 0 0)) (fun e => by injection e with e; exact HGN.out.1 e) (fun e => by injection e with e; exact HGN.out.2 e)
                    replace M := M.grown (grown_set _ gx 3 (.int .u64 lk)) (fun e => by injection e with e; exact HGN.out.1 e) (fun e => by injection e with e; exact HGN.out.2 e)
                    replace B := below_setN (g := gx) B (by have h1 := HGX.out; have h2 := HBE.out; omega) (.bool inn) (.slice none 0 0) (.slice none 0 0) (.int .u64 lk)
                    replace bn := bn.setN (.bool inn) (.slice none 0 0) (.slice none 0 0) (.int .u64 lk)
                    generalize (((w6.setCell ⟨gx, 0, none⟩ (.bool inn)).setCell ⟨gx, 1, none⟩ (.slice none 0 0)).setCell ⟨gx, 2, none⟩ (.slice none 0 0)).setCell ⟨gx, 3, none⟩ (.int .u64 lk) = w7 at *
                    go_wp2_with fail
                    go_meet
                    exact ⟨gx, rfl, bn, M, bm, bs, bx, B, HGN.out, HGX.out⟩
                  exact AllReadyZ.nil
                exact AllReadyZ.nil
              exact AllReadyZ.nil
            refine AllReadyZ.cons (opAt rfl) (fun K hK => ?_) ?_
            · skip
              go_simp
              have bn := Blk.new w4d 94 #[.bool false, .slice none 0 0, .slice none 0 0, .int .u64 0]
              have HGX := hide (show b + 1 + 1 < w4d.heap.size from bx.lt)
              have HGM := hide (show gm < w4d.heap.size ∧ gw < w4d.heap.size from ⟨Blk.lt M.1, Blk.lt M.2.1⟩)
              replace M := M.below ((Below.refl w4d.heap.size w4d).alloc (Nat.le_refl _) (.cells #[.bool false, .slice none 0 0, .slice none 0 0, .int .u64 0] 94))
              replace bm := bm.alloc (.cells #[.bool false, .slice none 0 0, .slice none 0 0, .int .u64 0] 94)
              replace bs := bs.alloc (.cells #[.bool false, .slice none 0 0, .slice none 0 0, .int .u64 0] 94)
              replace bx := bx.alloc (.cells #[.bool false, .slice none 0 0, .slice none 0 0, .int .u64 0] 94)
              replace B := B.alloc B.size (.cells #[.bool false, .slice none 0 0, .slice none 0 0, .int .u64 0] 94)
              generalize w4d.alloc (.cells #[.bool false, .slice none 0 0, .slice none 0 0, .int .u64 0] 94) = w6 at *
              generalize w4d.heap.size = gx at *
              refine hK.out _ _ (by exact ⟨bm.cell 0, bs.cell 0, mem5 M⟩) (fun hHeld => ?_)
              clear hK K
              try simp only [Act.put, List.setIfInBounds_toArray, List.set_cons_zero, List.set_cons_succ]
              refine wpAnyZ_ready (rs := [8]) (by kernel_rfl) (by simp) ?_
              refine AllReadyZ.cons (opAt rfl) (fun K hK => ?_) ?_
              · skip
                go_simp
                refine (CN.out _).mono ?_
                rintro e w5 ⟨rfl, hb1⟩
                replace bn := bn.below hb1 bn.lt
                replace M := M.below hb1
                replace bm := bm.below hb1 bm.lt
                replace bs := bs.below hb1 bs.lt
                replace bx := bx.below hb1 bx.lt
                replace B := B.trans (hb1.mono B.size)
                clear hb1
                try go_wp2_with fail
                refine hK.out _ _ (by exact ⟨bm.cell 0, bs.cell 0, mem5 M⟩) (fun hHeld => ?_)
                clear hK K
                try simp only [Act.put, List.setIfInBounds_toArray, List.set_cons_zero, List.set_cons_succ]
                refine wpAnyZ_ready (rs := [9]) (by kernel_rfl) (by simp) ?_
                refine AllReadyZ.cons (opAt rfl) (fun K hK => ?_) ?_
                · skip
                  go_simp
                  refine (W2.out _ M).mono ?_
                  rintro e wj ⟨rfl, rfl⟩
                  try go_wp2_with fail
                  refine hK.out _ _ (by exact ⟨bm.cell 0, bs.cell 0, mem5 M⟩) (fun hHeld => ?_)
                  clear hK K
                  try simp only [Act.put, List.setIfInBounds_toArray, List.set_cons_zero, List.set_cons_succ]
                  refine' wpAnyZ_takeA (i := 10) (v := ?_) (opAt rfl) (by kernel_rfl) (by kernel_rfl) (by kernel_rfl) (by kernel_rfl) (fun _ _ _ h => h) (by assumption) (by rfl) (fun w hSw => ?_) ?_
                  rotate_left
                  · (try dsimp only at hSw); go_simp; (try with_reducible rfl)
                  try simp only [Act.put, List.setIfInBounds_toArray, List.set_cons_zero, List.set_cons_succ]
                  refine wpAnyZ_ready (rs := [12]) (by kernel_rfl) (by simp) ?_
                  refine AllReadyZ.last (opAt rfl) (by kernel_rfl) (fun K hK => ?_) ?_
                  · skip
                    have zn := fun i => bn.frozen i
                    have mn := fun i => bn.cell i
                    go_simp
                    refine hK.out _ _ ?_
                    clear hK K
                    try simp only [Act.put, List.setIfInBounds_toArray, List.set_cons_zero, List.set_cons_succ]
                    refine wpAnyZ_done (by kernel_rfl) ?_ _
                    clear zn mn
                    replace bm := bm.far (p := ⟨gx, 0, none⟩) (by have := HGX.out; show b ≠ gx; omega) (.bool inn)
                    replace bm := bm.far (p := ⟨gx, 1, none⟩) (by have := HGX.out; show b ≠ gx; omega) (.slice none 0 0)
                    replace bm := bm.far (p := ⟨gx, 2, none⟩) (by have := HGX.out; show b ≠ gx; omega) (.slice none 0 0)
                    replace bm := bm.far (p := ⟨gx, 3, none⟩) (by have := HGX.out; show b ≠ gx; omega) (.int .u64 lk)
                    replace bs := bs.far (p := ⟨gx, 0, none⟩) (by have := HGX.out; show b + 1 ≠ gx; omega) (.bool inn)
                    replace bs := bs.far (p := ⟨gx, 1, none⟩) (by have := HGX.out; show b + 1 ≠ gx; omega) (.slice none 0 0)
                    replace bs := bs.far (p := ⟨gx, 2, none⟩) (by have := HGX.out; show b + 1 ≠ gx; omega) (.slice none 0 0)
                    replace bs := bs.far (p := ⟨gx, 3, none⟩) (by have := HGX.out; show b + 1 ≠ gx; omega) (.int .u64 lk)
                    replace bx := bx.far (p := ⟨gx, 0, none⟩) (by have := HGX.out; show b + 1 + 1 ≠ gx; omega) (.bool inn)
                    replace bx := bx.far (p := ⟨gx, 1, none⟩) (by have := HGX.out; show b + 1 + 1 ≠ gx; omega) (.slice none 0 0)
                    replace bx := bx.far (p := ⟨gx, 2, none⟩) (by have := HGX.out; show b + 1 + 1 ≠ gx; omega) (.slice none 0 0)
                    replace bx := bx.far (p := ⟨gx, 3, none⟩) (by have := HGX.out; show b + 1 + 1 ≠ gx; omega) (.int .u64 lk)
                    have HGN := hide (show gm ≠ gx ∧ gw ≠ gx by have := HGM.out; omega)
                    replace M := M.grown (grown_set _ gx 0 (.bool inn)) (fun e => by injection e with e; exact HGN.out.1 e) (fun e => by injection e with e; exact HGN.out.2 e)
                    replace M := M.grown (grown_set _ gx 1 (.slice none 0 0)) (fun e => by injection e with e; exact HGN.out.1 e) (fun e => by injection e with e; exact HGN.out.2 e)
                    replace M := M.grown (grown_set _ gx 2 (.slice none 0 0)) (fun e => by injection e with e; exact HGN.out.1 e) (fun e => by injection e with e; exact HGN.out.2 e)
                    replace M := M.grown (grown_set _ gx 3 (.int .u64 lk)) (fun e => by injection e with e; exact HGN.out.1 e) (fun e => by injection e with e; exact HGN.out.2 e)
                    replace B := below_setN (g := gx) B (by have h1 := HGX.out; have h2 := HBE.out; omega) (.bool inn) (.slice none 0 0) (.slice none 0 0) (.int .u64 lk)
                    replace bn := bn.setN (.bool inn) (.slice none 0 0) (.slice none 0 0) (.int .u64 lk)
                    generalize (((w5.setCell ⟨gx, 0, none⟩ (.bool inn)).setCell ⟨gx, 1, none⟩ (.slice none 0 0)).setCell ⟨gx, 2, none⟩ (.slice none 0 0)).setCell ⟨gx, 3, none⟩ (.int .u64 lk) = w7 at *
                    go_wp2_with fail
                    go_meet
                    exact ⟨gx, rfl, bn, M, bm, bs, bx, B, HGN.out, HGX.out⟩
                  exact AllReadyZ.nil
                exact AllReadyZ.nil
              exact AllReadyZ.nil
            exact AllReadyZ.nil
          refine AllReadyZ.cons (opAt rfl) (fun K hK => ?_) ?_
          · skip
            go_simp
            have bn := Blk.new w4d 94 #[.bool false, .slice none 0 0, .slice none 0 0, .int .u64 0]
            have HGX := hide (show b + 1 + 1 < w4d.heap.size from bx.lt)
            have HGM := hide (show gm < w4d.heap.size ∧ gw < w4d.heap.size from ⟨Blk.lt M.1, Blk.lt M.2.1⟩)
            replace M := M.below ((Below.refl w4d.heap.size w4d).alloc (Nat.le_refl _) (.cells #[.bool false, .slice none 0 0, .slice none 0 0, .int .u64 0] 94))
            replace bm := bm.alloc (.cells #[.bool false, .slice none 0 0, .slice none 0 0, .int .u64 0] 94)
            replace bs := bs.alloc (.cells #[.bool false, .slice none 0 0, .slice none 0 0, .int .u64 0] 94)
            replace bx := bx.alloc (.cells #[.bool false, .slice none 0 0, .slice none 0 0, .int .u64 0] 94)
            replace B := B.alloc B.size (.cells #[.bool false, .slice none 0 0, .slice none 0 0, .int .u64 0] 94)
            generalize w4d.alloc (.cells #[.bool false, .slice none 0 0, .slice none 0 0, .int .u64 0] 94) = w6 at *
            generalize w4d.heap.size = gx at *
            refine hK.out _ _ (by exact ⟨bm.cell 0, bs.cell 0, mem5 M⟩) (fun hHeld => ?_)
            clear hK K
            try simp only [Act.put, List.setIfInBounds_toArray, List.set_cons_zero, List.set_cons_succ]
            refine wpAnyZ_ready (rs := [1]) (by kernel_rfl) (by simp) ?_
            refine AllReadyZ.cons (opAt rfl) (fun K hK => ?_) ?_
            · skip
              go_simp
              refine (IN.out _).mono ?_
              rintro e wi ⟨rfl, rfl⟩
              try go_wp2_with fail
              refine hK.out _ _ (by exact ⟨bm.cell 0, bs.cell 0, mem5 M⟩) (fun hHeld => ?_)
              clear hK K
              try simp only [Act.put, List.setIfInBounds_toArray, List.set_cons_zero, List.set_cons_succ]
              refine wpAnyZ_ready (rs := [8]) (by kernel_rfl) (by simp) ?_
              refine AllReadyZ.cons (opAt rfl) (fun K hK => ?_) ?_
              · skip
                go_simp
                refine (CN.out _).mono ?_
                rintro e w5 ⟨rfl, hb1⟩
                replace bn := bn.below hb1 bn.lt
                replace M := M.below hb1
                replace bm := bm.below hb1 bm.lt
                replace bs := bs.below hb1 bs.lt
                replace bx := bx.below hb1 bx.lt
                replace B := B.trans (hb1.mono B.size)
                clear hb1
                try go_wp2_with fail
                refine hK.out _ _ (by exact ⟨bm.cell 0, bs.cell 0, mem5 M⟩) (fun hHeld => ?_)
                clear hK K
                try simp only [Act.put, List.setIfInBounds_toArray, List.set_cons_zero, List.set_cons_succ]
                refine wpAnyZ_ready (rs := [9]) (by kernel_rfl) (by simp) ?_
                refine AllReadyZ.cons (opAt rfl) (fun K hK => ?_) ?_
                · skip
                  go_simp
                  refine (W2.out _ M).mono ?_
                  rintro e wj ⟨rfl, rfl⟩
                  try go_wp2_with fail
                  refine hK.out _ _ (by exact ⟨bm.cell 0, bs.cell 0, mem5 M⟩) (fun hHeld => ?_)
                  clear hK K
                  try simp only [Act.put, List.setIfInBounds_toArray, List.set_cons_zero, List.set_cons_succ]
                  refine' wpAnyZ_takeA (i := 10) (v := ?_) (opAt rfl) (by kernel_rfl) (by kernel_rfl) (by kernel_rfl) (by kernel_rfl) (fun _ _ _ h => h) (by assumption) (by rfl) (fun w hSw => ?_) ?_
                  rotate_left
                  · (try dsimp only at hSw); go_simp; (try with_reducible rfl)
                  try simp only [Act.put, List.setIfInBounds_toArray, List.set_cons_zero, List.set_cons_succ]
                  refine wpAnyZ_ready (rs := [12]) (by kernel_rfl) (by simp) ?_
                  refine AllReadyZ.last (opAt rfl) (by kernel_rfl) (fun K hK => ?_) ?_
                  · skip
                    have zn := fun i => bn.frozen i
                    have mn := fun i => bn.cell i
                    go_simp
                    refine hK.out _ _ ?_
                    clear hK K
                    try simp only [Act.put, List.setIfInBounds_toArray, List.set_cons_zero, List.set_cons_succ]
                    refine wpAnyZ_done (by kernel_rfl) ?_ _
                    clear zn mn
                    replace bm := bm.far (p := ⟨gx, 0, none⟩) (by have := HGX.out; show b ≠ gx; omega) (.bool inn)
                    replace bm := bm.far (p := ⟨gx, 1, none⟩) (by have := HGX.out; show b ≠ gx; omega) (.slice none 0 0)
                    replace bm := bm.far (p := ⟨gx, 2, none⟩) (by have := HGX.out; show b ≠ gx; omega) (.slice none 0 0)
                    replace bm := bm.far (p := ⟨gx, 3, none⟩) (by have := HGX.out; show b ≠ gx; omega) (.int .u64 lk)
                    replace bs := bs.far (p := ⟨gx, 0, none⟩) (by have := HGX.out; show b + 1 ≠ gx; omega) (.bool inn)
                    replace bs := bs.far (p := ⟨gx, 1, none⟩) (by have := HGX.out; show b + 1 ≠ gx; omega) (.slice none 0 0)
                    replace bs := bs.far (p := ⟨gx, 2, none⟩) (by have := HGX.out; show b + 1 ≠ gx; omega) (.slice none 0 0)
                    replace bs := bs.far (p := ⟨gx, 3, none⟩) (by have := HGX.out; show b + 1 ≠ gx; omega) (.int .u64 lk)
                    replace bx := bx.far (p := ⟨gx, 0, none⟩) (by have := HGX.out; show b + 1 + 1 ≠ gx; omega) (.bool inn)
                    replace bx := bx.far (p := ⟨gx, 1, none⟩) (by have := HGX.out; show b + 1 + 1 ≠ gx; omega) (.slice none 0 0)
                    replace bx := bx.far (p := ⟨gx, 2, none⟩) (by have := HGX.out; show b + 1 + 1 ≠ gx; omega) (.slice none 0 0)
                    replace bx := bx.far (p := ⟨gx, 3, none⟩) (by have := HGX.out; show b + 1 + 1 ≠ gx; omega) (.int .u64 lk)
                    have HGN := hide (show gm ≠ gx ∧ gw ≠ gx by have := HGM.out; omega)
                    replace M := M.grown (grown_set _ gx 0 (.bool inn)) (fun e => by injection e with e; exact HGN.out.1 e) (fun e => by injection e with e; exact HGN.out.2 e)
                    replace M := M.grown (grown_set _ gx 1 (.slice none 0 0)) (fun e => by injection e with e; exact HGN.out.1 e) (fun e => by injection e with e; exact HGN.out.2 e)
                    replace M := M.grown (grown_set _ gx 2 (.slice none 0 0)) (fun e => by injection e with e; exact HGN.out.1 e) (fun e => by injection e with e; exact HGN.out.2 e)
                    replace M := M.grown (grown_set _ gx 3 (.int .u64 lk)) (fun e => by injection e with e; exact HGN.out.1 e) (fun e => by injection e with e; exact HGN.out.2 e)
                    replace B := below_setN (g := gx) B (by have h1 := HGX.out; have h2 := HBE.out; omega) (.bool inn) (.slice none 0 0) (.slice none 0 0) (.int .u64 lk)
                    replace bn := bn.setN (.bool inn) (.slice none 0 0) (.slice none 0 0) (.int .u64 lk)
                    generalize (((w5.setCell ⟨gx, 0, none⟩ (.bool inn)).setCell ⟨gx, 1, none⟩ (.slice none 0 0)).setCell ⟨gx, 2, none⟩ (.slice none 0 0)).setCell ⟨gx, 3, none⟩ (.int .u64 lk) = w7 at *
                    go_wp2_with fail
                    go_meet
                    exact ⟨gx, rfl, bn, M, bm, bs, bx, B, HGN.out, HGX.out⟩
                  exact AllReadyZ.nil
                exact AllReadyZ.nil
              exact AllReadyZ.nil
            exact AllReadyZ.nil
          exact AllReadyZ.nil
        case rest =>
          obtain ⟨gx, rfl, ⟨bn, M, bm, bs, bx, B, g1, g2⟩⟩ := hcut
          have HGX := hide g2
          have HGN := hide g1
          clear g1 g2
          have HNN := hide (show N ≤ 64 by have h1 := HNf.out; have h2 := HT.out; omega)
          generalize hq : (N : Int) = q
          have hq0 : 0 ≤ q := by omega
          have hq1 : q ≤ 64 := by have := HNN.out; omega
          have HQ := hide hq
          clear hq
          have fin : ∀ (w7 : World) (A1 : Option Addr) (c1 : Nat) (A2 : Option Addr) (c2 : Nat), w7.ownsRow b 24 1 (.slice A1 NK c1) NK (ints .u64 (rowL ws gk NK)) → w7.ownsRow b 24 1 (.slice A2 N c2) N (ints .u64 (rowL ws gv N)) → NdO w7 b (.agg #[.bool inn, .slice A1 NK c1, .slice A2 N c2, .int .u64 lk]) inn ks vs lk := by
            intro w7 A1 c1 A2 c2 o1 o2
            rw [HKE.out, HVE.out]
            exact ⟨_, _, rfl, by show w7.ownsRow _ _ _ _ _ _; rw [rowL_len]; exact o1, by show w7.ownsRow _ _ _ _ _ _; rw [rowL_len]; exact o2⟩
          have FIN := hide fin
          clear fin
          cases inn with
          | false =>
            have HKN := hide (show NK ≤ N ∧ q = (NK : Int) by have h1 := HNK.out; have h2 := HQ.out; simp at h1; omega)
            have mn := fun j => bn.cell j
            have mm := bm.cell 0
            go_wp2_with fail
            clear mn mm
            try clear hmax
            refine (RK.out b NK q HKN.out.1 HKN.out.2 _ M bm bs).mono ?_
            rintro e w7 ⟨⟨A1, c1, rfl, o1⟩, hb1⟩
            replace bn := bn.below hb1 bn.lt
            replace o1 := own_mono (B' := b) o1 (by have h1 := B.size; have h2 := HBE.out; omega)
            replace M := M.below hb1
            replace bm := bm.below hb1 bm.lt
            replace bs := bs.below hb1 bs.lt
            replace bx := bx.below hb1 bx.lt
            replace B := B.trans (hb1.mono B.size)
            clear hb1
            have zn := fun j => bn.frozen j
            have mn := fun j => bn.cell j
            have mm := bm.cell 0
            have n1 := (show b ≠ gx by have := HGX.out; omega)
            have n2 := n1.symm
            go_wp2_with fail
            clear zn mm mn
            replace o1 := own_setT o1 bn (by decide) 1 (.slice A1 NK c1)
            replace bm := bm.far (p := ⟨gx, 1, none⟩) (by have := HGX.out; show b ≠ gx; omega) (.slice A1 NK c1)
            replace bs := bs.far (p := ⟨gx, 1, none⟩) (by have := HGX.out; show b + 1 ≠ gx; omega) (.slice A1 NK c1)
            replace bx := bx.far (p := ⟨gx, 1, none⟩) (by have := HGX.out; show b + 1 + 1 ≠ gx; omega) (.slice A1 NK c1)
            replace M := M.grown (grown_set _ gx 1 (.slice A1 NK c1)) (fun e => by injection e with e; exact HGN.out.1 e) (fun e => by injection e with e; exact HGN.out.2 e)
            replace B := B.setCell (p := ⟨gx, 1, none⟩) (by have h1 := HGX.out; have h2 := HBE.out; show w.heap.size ≤ gx; omega) (.slice A1 NK c1)
            replace bn := bn.setK (.slice A1 NK c1)
            generalize w7.setCell ⟨gx, 1, none⟩ (.slice A1 NK c1) = w8 at *
            refine (RV.out b N q (Nat.le_refl _) HQ.out.symm _ M bm bs).mono ?_
            rintro e w9 ⟨⟨A2, c2, rfl, o2⟩, hb1⟩
            replace bn := bn.below hb1 bn.lt
            replace o1 := own_below o1 hb1
            replace o2 := own_mono (B' := b) o2 (by have h1 := B.size; have h2 := HBE.out; omega)
            replace M := M.below hb1
            replace bm := bm.below hb1 bm.lt
            replace bs := bs.below hb1 bs.lt
            replace bx := bx.below hb1 bx.lt
            replace B := B.trans (hb1.mono B.size)
            clear hb1
            have zn := fun j => bn.frozen j
            have mn := fun j => bn.cell j
            have zx := fun j => bx.frozen j
            have mx := fun j => bx.cell j
            have n3 := (show b + 1 + 1 ≠ gx by have := HGX.out; omega)
            have n4 := n3.symm
            go_wp2_with fail
            clear zn mn zx mx
            replace o1 := own_setT o1 bn (by decide) 2 (.slice A2 N c2)
            replace o2 := own_setT o2 bn (by decide) 2 (.slice A2 N c2)
            replace bm := bm.far (p := ⟨gx, 2, none⟩) (by have := HGX.out; show b ≠ gx; omega) (.slice A2 N c2)
            replace bs := bs.far (p := ⟨gx, 2, none⟩) (by have := HGX.out; show b + 1 ≠ gx; omega) (.slice A2 N c2)
            replace bx := bx.far (p := ⟨gx, 2, none⟩) (by have := HGX.out; show b + 1 + 1 ≠ gx; omega) (.slice A2 N c2)
            replace M := M.grown (grown_set _ gx 2 (.slice A2 N c2)) (fun e => by injection e with e; exact HGN.out.1 e) (fun e => by injection e with e; exact HGN.out.2 e)
            replace B := B.setCell (p := ⟨gx, 2, none⟩) (by have h1 := HGX.out; have h2 := HBE.out; show w.heap.size ≤ gx; omega) (.slice A2 N c2)
            replace bn := bn.setV (.slice A2 N c2)
            have o10 := own_setT o1 bx (by decide) 0 (.bool false)
            have o20 := own_setT o2 bx (by decide) 0 (.bool false)
            have x0 := bx.set_ 0 (.bool false)
            have o11 := own_setT o10 x0 (by decide) 1 (.slice A1 NK c1)
            have o21 := own_setT o20 x0 (by decide) 1 (.slice A1 NK c1)
            have x1 := x0.set_ 1 (.slice A1 NK c1)
            have o12 := own_setT o11 x1 (by decide) 2 (.slice A2 N c2)
            have o22 := own_setT o21 x1 (by decide) 2 (.slice A2 N c2)
            have x2 := x1.set_ 2 (.slice A2 N c2)
            have o13 := own_setT o12 x2 (by decide) 3 (.int .u64 lk)
            have o23 := own_setT o22 x2 (by decide) 3 (.int .u64 lk)
            have x3 := x2.set_ 3 (.int .u64 lk)
            have C9 := below_setN (g := b + 1 + 1) B (by have h2 := HBE.out; omega) (.bool false) (.slice A1 NK c1) (.slice A2 N c2) (.int .u64 lk)
            have m9 := fun j => x3.cell j
            refine bodyPost_ret (v := .agg #[.bool false, .slice A1 NK c1, .slice A2 N c2, .int .u64 lk]) (by simp [results, Tryd.results56, go_sem, m9, List.setIfInBounds_toArray]) rfl ⟨⟨_, rfl, by rw [← HBE.out]; exact FIN.out _ A1 c1 A2 c2 o13 o23⟩, by first | exact C9 | (rw [HBE.out]; exact C9)⟩
          | true =>
            rcases Int.lt_or_le 1 q with h1 | h1
            · skip
              have HKN := hide (show NK ≤ N ∧ q - 1 = (NK : Int) by have h1 := HNK.out; have h2 := HQ.out; simp at h1; omega)
              have hmax : max (0 : Int) (q - 1) = q - 1 := by omega
              have mn := fun j => bn.cell j
              have mm := bm.cell 0
              go_wp2_with fail
              clear mn mm
              try clear hmax
              refine (RK.out b NK (q - 1) HKN.out.1 HKN.out.2 _ M bm bs).mono ?_
              rintro e w7 ⟨⟨A1, c1, rfl, o1⟩, hb1⟩
              replace bn := bn.below hb1 bn.lt
              replace o1 := own_mono (B' := b) o1 (by have h1 := B.size; have h2 := HBE.out; omega)
              replace M := M.below hb1
              replace bm := bm.below hb1 bm.lt
              replace bs := bs.below hb1 bs.lt
              replace bx := bx.below hb1 bx.lt
              replace B := B.trans (hb1.mono B.size)
              clear hb1
              have zn := fun j => bn.frozen j
              have mn := fun j => bn.cell j
              have mm := bm.cell 0
              have n1 := (show b ≠ gx by have := HGX.out; omega)
              have n2 := n1.symm
              go_wp2_with fail
              clear zn mm mn
              replace o1 := own_setT o1 bn (by decide) 1 (.slice A1 NK c1)
              replace bm := bm.far (p := ⟨gx, 1, none⟩) (by have := HGX.out; show b ≠ gx; omega) (.slice A1 NK c1)
              replace bs := bs.far (p := ⟨gx, 1, none⟩) (by have := HGX.out; show b + 1 ≠ gx; omega) (.slice A1 NK c1)
              replace bx := bx.far (p := ⟨gx, 1, none⟩) (by have := HGX.out; show b + 1 + 1 ≠ gx; omega) (.slice A1 NK c1)
              replace M := M.grown (grown_set _ gx 1 (.slice A1 NK c1)) (fun e => by injection e with e; exact HGN.out.1 e) (fun e => by injection e with e; exact HGN.out.2 e)
              replace B := B.setCell (p := ⟨gx, 1, none⟩) (by have h1 := HGX.out; have h2 := HBE.out; show w.heap.size ≤ gx; omega) (.slice A1 NK c1)
              replace bn := bn.setK (.slice A1 NK c1)
              generalize w7.setCell ⟨gx, 1, none⟩ (.slice A1 NK c1) = w8 at *
              refine (RV.out b N q (Nat.le_refl _) HQ.out.symm _ M bm bs).mono ?_
              rintro e w9 ⟨⟨A2, c2, rfl, o2⟩, hb1⟩
              replace bn := bn.below hb1 bn.lt
              replace o1 := own_below o1 hb1
              replace o2 := own_mono (B' := b) o2 (by have h1 := B.size; have h2 := HBE.out; omega)
              replace M := M.below hb1
              replace bm := bm.below hb1 bm.lt
              replace bs := bs.below hb1 bs.lt
              replace bx := bx.below hb1 bx.lt
              replace B := B.trans (hb1.mono B.size)
              clear hb1
              have zn := fun j => bn.frozen j
              have mn := fun j => bn.cell j
              have zx := fun j => bx.frozen j
              have mx := fun j => bx.cell j
              have n3 := (show b + 1 + 1 ≠ gx by have := HGX.out; omega)
              have n4 := n3.symm
              go_wp2_with fail
              clear zn mn zx mx
              replace o1 := own_setT o1 bn (by decide) 2 (.slice A2 N c2)
              replace o2 := own_setT o2 bn (by decide) 2 (.slice A2 N c2)
              replace bm := bm.far (p := ⟨gx, 2, none⟩) (by have := HGX.out; show b ≠ gx; omega) (.slice A2 N c2)
              replace bs := bs.far (p := ⟨gx, 2, none⟩) (by have := HGX.out; show b + 1 ≠ gx; omega) (.slice A2 N c2)
              replace bx := bx.far (p := ⟨gx, 2, none⟩) (by have := HGX.out; show b + 1 + 1 ≠ gx; omega) (.slice A2 N c2)
              replace M := M.grown (grown_set _ gx 2 (.slice A2 N c2)) (fun e => by injection e with e; exact HGN.out.1 e) (fun e => by injection e with e; exact HGN.out.2 e)
              replace B := B.setCell (p := ⟨gx, 2, none⟩) (by have h1 := HGX.out; have h2 := HBE.out; show w.heap.size ≤ gx; omega) (.slice A2 N c2)
              replace bn := bn.setV (.slice A2 N c2)
              have o10 := own_setT o1 bx (by decide) 0 (.bool true)
              have o20 := own_setT o2 bx (by decide) 0 (.bool true)
              have x0 := bx.set_ 0 (.bool true)
              have o11 := own_setT o10 x0 (by decide) 1 (.slice A1 NK c1)
              have o21 := own_setT o20 x0 (by decide) 1 (.slice A1 NK c1)
              have x1 := x0.set_ 1 (.slice A1 NK c1)
              have o12 := own_setT o11 x1 (by decide) 2 (.slice A2 N c2)
              have o22 := own_setT o21 x1 (by decide) 2 (.slice A2 N c2)
              have x2 := x1.set_ 2 (.slice A2 N c2)
              have o13 := own_setT o12 x2 (by decide) 3 (.int .u64 lk)
              have o23 := own_setT o22 x2 (by decide) 3 (.int .u64 lk)
              have x3 := x2.set_ 3 (.int .u64 lk)
              have C9 := below_setN (g := b + 1 + 1) B (by have h2 := HBE.out; omega) (.bool true) (.slice A1 NK c1) (.slice A2 N c2) (.int .u64 lk)
              have m9 := fun j => x3.cell j
              refine bodyPost_ret (v := .agg #[.bool true, .slice A1 NK c1, .slice A2 N c2, .int .u64 lk]) (by simp [results, Tryd.results56, go_sem, m9, List.setIfInBounds_toArray]) rfl ⟨⟨_, rfl, by rw [← HBE.out]; exact FIN.out _ A1 c1 A2 c2 o13 o23⟩, by first | exact C9 | (rw [HBE.out]; exact C9)⟩
            · skip
              have HKN := hide (show NK ≤ N ∧ 0 = (NK : Int) by have h1 := HNK.out; have h2 := HQ.out; simp at h1; omega)
              have hmax : max (0 : Int) (q - 1) = 0 := by omega
              have mn := fun j => bn.cell j
              have mm := bm.cell 0
              go_wp2_with fail
              clear mn mm
              try clear hmax
              refine (RK.out b NK 0 HKN.out.1 HKN.out.2 _ M bm bs).mono ?_
              rintro e w7 ⟨⟨A1, c1, rfl, o1⟩, hb1⟩
              replace bn := bn.below hb1 bn.lt
              replace o1 := own_mono (B' := b) o1 (by have h1 := B.size; have h2 := HBE.out; omega)
              replace M := M.below hb1
              replace bm := bm.below hb1 bm.lt
              replace bs := bs.below hb1 bs.lt
              replace bx := bx.below hb1 bx.lt
              replace B := B.trans (hb1.mono B.size)
              clear hb1
              have zn := fun j => bn.frozen j
              have mn := fun j => bn.cell j
              have mm := bm.cell 0
              have n1 := (show b ≠ gx by have := HGX.out; omega)
              have n2 := n1.symm
              go_wp2_with fail
              clear zn mm mn
              replace o1 := own_setT o1 bn (by decide) 1 (.slice A1 NK c1)
              replace bm := bm.far (p := ⟨gx, 1, none⟩) (by have := HGX.out; show b ≠ gx; omega) (.slice A1 NK c1)
              replace bs := bs.far (p := ⟨gx, 1, none⟩) (by have := HGX.out; show b + 1 ≠ gx; omega) (.slice A1 NK c1)
              replace bx := bx.far (p := ⟨gx, 1, none⟩) (by have := HGX.out; show b + 1 + 1 ≠ gx; omega) (.slice A1 NK c1)
              replace M := M.grown (grown_set _ gx 1 (.slice A1 NK c1)) (fun e => by injection e with e; exact HGN.out.1 e) (fun e => by injection e with e; exact HGN.out.2 e)
              replace B := B.setCell (p := ⟨gx, 1, none⟩) (by have h1 := HGX.out; have h2 := HBE.out; show w.heap.size ≤ gx; omega) (.slice A1 NK c1)
              replace bn := bn.setK (.slice A1 NK c1)
              generalize w7.setCell ⟨gx, 1, none⟩ (.slice A1 NK c1) = w8 at *
              refine (RV.out b N q (Nat.le_refl _) HQ.out.symm _ M bm bs).mono ?_
              rintro e w9 ⟨⟨A2, c2, rfl, o2⟩, hb1⟩
              replace bn := bn.below hb1 bn.lt
              replace o1 := own_below o1 hb1
              replace o2 := own_mono (B' := b) o2 (by have h1 := B.size; have h2 := HBE.out; omega)
              replace M := M.below hb1
              replace bm := bm.below hb1 bm.lt
              replace bs := bs.below hb1 bs.lt
              replace bx := bx.below hb1 bx.lt
              replace B := B.trans (hb1.mono B.size)
              clear hb1
              have zn := fun j => bn.frozen j
              have mn := fun j => bn.cell j
              have zx := fun j => bx.frozen j
              have mx := fun j => bx.cell j
              have n3 := (show b + 1 + 1 ≠ gx by have := HGX.out; omega)
              have n4 := n3.symm
              go_wp2_with fail
              clear zn mn zx mx
              replace o1 := own_setT o1 bn (by decide) 2 (.slice A2 N c2)
              replace o2 := own_setT o2 bn (by decide) 2 (.slice A2 N c2)
              replace bm := bm.far (p := ⟨gx, 2, none⟩) (by have := HGX.out; show b ≠ gx; omega) (.slice A2 N c2)
              replace bs := bs.far (p := ⟨gx, 2, none⟩) (by have := HGX.out; show b + 1 ≠ gx; omega) (.slice A2 N c2)
              replace bx := bx.far (p := ⟨gx, 2, none⟩) (by have := HGX.out; show b + 1 + 1 ≠ gx; omega) (.slice A2 N c2)
              replace M := M.grown (grown_set _ gx 2 (.slice A2 N c2)) (fun e => by injection e with e; exact HGN.out.1 e) (fun e => by injection e with e; exact HGN.out.2 e)
              replace B := B.setCell (p := ⟨gx, 2, none⟩) (by have h1 := HGX.out; have h2 := HBE.out; show w.heap.size ≤ gx; omega) (.slice A2 N c2)
              replace bn := bn.setV (.slice A2 N c2)
              have o10 := own_setT o1 bx (by decide) 0 (.bool true)
              have o20 := own_setT o2 bx (by decide) 0 (.bool true)
              have x0 := bx.set_ 0 (.bool true)
              have o11 := own_setT o10 x0 (by decide) 1 (.slice A1 NK c1)
              have o21 := own_setT o20 x0 (by decide) 1 (.slice A1 NK c1)
              have x1 := x0.set_ 1 (.slice A1 NK c1)
              have o12 := own_setT o11 x1 (by decide) 2 (.slice A2 N c2)
              have o22 := own_setT o21 x1 (by decide) 2 (.slice A2 N c2)
              have x2 := x1.set_ 2 (.slice A2 N c2)
              have o13 := own_setT o12 x2 (by decide) 3 (.int .u64 lk)
              have o23 := own_setT o22 x2 (by decide) 3 (.int .u64 lk)
              have x3 := x2.set_ 3 (.int .u64 lk)
              have C9 := below_setN (g := b + 1 + 1) B (by have h2 := HBE.out; omega) (.bool true) (.slice A1 NK c1) (.slice A2 N c2) (.int .u64 lk)
              have m9 := fun j => x3.cell j
              refine bodyPost_ret (v := .agg #[.bool true, .slice A1 NK c1, .slice A2 N c2, .int .u64 lk]) (by simp [results, Tryd.results56, go_sem, m9, List.setIfInBounds_toArray]) rfl ⟨⟨_, rfl, by rw [← HBE.out]; exact FIN.out _ A1 c1 A2 c2 o13 o23⟩, by first | exact C9 | (rw [HBE.out]; exact C9)⟩
      exact AllReadyZ.nil
    exact AllReadyZ.nil
  exact AllReadyZ.nil
end Go.Proofs.YtlnckjemfabckaaDoor

/-
  The document's list of free slots: gleaningref10.Has, gleaningref10.Free.
-/
namespace Go.Proofs.YtlnckjemfabckaaDoor
open Go.RowKit

theorem take_snocI (l : List Int) (k : Nat) (hk : k < l.length) : l.take (k + 1) = l.take k ++ [l[k]] := by rw [List.take_add_one, List.getElem?_eq_getElem hk]; rfl
def HasIn (n : Nat) (l : List Int) (x : Int) (w : World) (i : Value) (wr : World) : Prop :=
  ∃ k : Nat, i = .int .i64 k ∧ k ≤ n ∧ Below w.heap.size w wr ∧ x ∉ l.take k
def RfIn (g gc : Nat) (ws : List Int) (s t f l p : Int) (nx : Int → Int) (R : List Int × Bool) (w : World) (o i : Value) (wr : World) : Prop :=
  ∃ (x : Int) (q : List Int) (A : Option Addr) (c : Nat), o = .slice A q.length c ∧ i = .int .u64 x ∧ W64 x ∧ Nice s q ∧ frN nx s (s.toNat + 1 - q.length) x q = R ∧
    wr.ownsRow (w.heap.size + 1) 3 1 (.slice A q.length c) q.length (ints .i64 q) ∧ RefOk wr g ws ∧ Blk wr gc 39 #[.int .i64 s, .int .i64 t, .int .i64 f, .int .i64 l, .int .i64 p] ∧ w.heap.size + 1 ≤ wr.heap.size ∧ Below w.heap.size w wr
end Go.Proofs.YtlnckjemfabckaaDoor

/-
  gleaningref10.Node: what a slot's words tell, by the reference.
-/
namespace Go.Proofs.YtlnckjemfabckaaDoor
open Go.RowKit

/-- The keys behind k values. -/
def nkOf (b : Bool) (k : Nat) : Nat := if b = true then k - 1 else k
structure RnW (g gc : Nat) (s t f l p k : Int) (ws : List Int) (inn : Bool) (lk : Int) (w wr : World) (i : Nat) (A1 : Option Addr) (c1 : Nat) (A2 : Option Addr) (c2 : Nat) : Prop where
  bn : Blk wr (gc + 1 + 1) 94 #[.bool inn, .slice A1 (nkOf inn i) c1, .slice A2 i c2, .int .u64 lk]
  o1 : wr.ownsRow (gc + 3) 24 1 (.slice A1 (nkOf inn i) c1) (nkOf inn i) (ints .u64 (rowL ws (fun j => nB t f k + 3 + j) (nkOf inn i)))
  o2 : wr.ownsRow (gc + 3) 24 1 (.slice A2 i c2) i (ints .u64 (rowL ws (fun j => nB t f k + 3 + f + j) i))
  ha : Apart (.slice A1 (nkOf inn i) c1) (.slice A2 i c2)
  bc : Blk wr gc 39 #[.int .i64 s, .int .i64 t, .int .i64 f, .int .i64 l, .int .i64 p]
  br : Blk wr (gc + 1) 94 #[.bool false, .slice none 0 0, .slice none 0 0, .int .u64 0]
  rb : RefOk wr g ws
  hb : Below gc w wr
  hl : gc + 3 ≤ wr.heap.size
def RnI (g gc : Nat) (s t f l p k : Int) (ws : List Int) (inn : Bool) (lk : Int) (N : Nat) (w : World) (iv : Value) (wr : World) : Prop :=
  ∃ (i : Nat) (A1 : Option Addr) (c1 : Nat) (A2 : Option Addr) (c2 : Nat), iv = .int .i64 i ∧ i ≤ N ∧ RnW g gc s t f l p k ws inn lk w wr i A1 c1 A2 c2
theorem Blk.setI {w : World} {g : Nat} {t : TypeId} {a b c d : Value} (h : Blk w g t #[a, b, c, d]) (x : Value) : Blk (w.setCell ⟨g, 0, none⟩ x) g t #[x, b, c, d] := by
  have b9 := h.set_ 0 x
  simpa only [List.setIfInBounds_toArray, List.set_cons_zero, List.set_cons_succ] using b9
theorem Blk.setL {w : World} {g : Nat} {t : TypeId} {a b c d : Value} (h : Blk w g t #[a, b, c, d]) (x : Value) : Blk (w.setCell ⟨g, 3, none⟩ x) g t #[a, b, c, x] := by
  have b9 := h.set_ 3 x
  simpa only [List.setIfInBounds_toArray, List.set_cons_zero, List.set_cons_succ] using b9
theorem refok_far {w : World} {g : Nat} {ws : List Int} (R : RefOk w g ws) {p : Addr} (hp : g ≠ p.block) (v : Value) : RefOk (w.setCell p v) g ws := Blk.far R hp v
end Go.Proofs.YtlnckjemfabckaaDoor

/-
  A range over an iterator that marks what has come in a map of its caller's: contract and law.
-/
namespace Go.Proofs.YtlnckjemfabckaaDoor
open Go.RowKit Go.Shelf

/-- What a round of loop l lets stand: all but lists of ints, and the loops from l down. -/
def okO (l k : Nat) : Obj → Prop
  | .cells _ t _ => t ≠ 3 ∧ t ≠ 66
  | .loop _ => l < k
  | _ => True
structure KeepX (l : Nat) (W W' : World) : Prop where
  size : W.heap.size ≤ W'.heap.size
  same : ∀ (k : Nat) (o : Obj), W.heap[k]? = some o → okO l k o → W'.heap[k]? = some o
theorem KeepX.refl (l : Nat) (W : World) : KeepX l W W := ⟨Nat.le_refl _, fun _ _ h _ => h⟩
theorem KeepX.trans {l : Nat} {a b c : World} (h : KeepX l a b) (k : KeepX l b c) : KeepX l a c := ⟨Nat.le_trans h.size k.size, fun i o ho hk => k.same i o (h.same i o ho hk) hk⟩
theorem okO_mono {l0 l k : Nat} {o : Obj} (h : l0 ≤ l) (ho : okO l k o) : okO l0 k o := by
  cases o <;> first | exact ho | exact Nat.lt_of_le_of_lt h ho
theorem KeepX.mono {l0 l : Nat} {W W' : World} (h : l0 ≤ l) (hk : KeepX l0 W W') : KeepX l W W' := ⟨hk.size, fun k o ho hok => hk.same k o ho (okO_mono h hok)⟩
theorem KeepX.of_below {l : Nat} {W W' : World} (hb : Below W.heap.size W W') : KeepX l W W' := ⟨hb.size, fun k _ ho _ => (hb.block k (Array.getElem?_eq_some_iff.1 ho).1).trans ho⟩
theorem KeepX.putLoop {l : Nat} {W : World} {r : Loop} (o : Obj) (h : W.heap[l]? = some (.loop r)) : KeepX l W (W.putObj l o) :=
  ⟨by simp, fun k o' hk hok => by
    by_cases e : k = l
    · subst e; rw [h] at hk; cases hk; exact absurd hok (Nat.lt_irrefl _)
    · exact (World.putObj_heap_other e).trans hk⟩
theorem KeepX.of_grownBy {l : Nat} {W W' : World} {row : Option Nat} (hg : W.grownBy W' row) (hrow : ∀ j, row = some j → ∃ c t f, W.heap[j]? = some (.cells c t f) ∧ (t = 3 ∨ t = 66)) : KeepX l W W' :=
  ⟨hg.size, fun k o hk hok => by
    refine (hg.block k (Array.getElem?_eq_some_iff.1 hk).1 (fun e => ?_)).trans hk
    obtain ⟨c, t, f, hc, ht⟩ := hrow k e.symm
    rw [hc] at hk
    cases hk
    rcases ht with ht | ht
    · exact hok.1 ht
    · exact hok.2 ht⟩
/-- What an iterator's own steps let stand: all but block bm, and what is no cells from n on. -/
structure PartN (n bm : Nat) (W W' : World) : Prop where
  os : W'.os = W.os
  tape : W'.tape = W.tape
  output : W'.output = W.output
  size : W.heap.size ≤ W'.heap.size
  same : ∀ (k : Nat) (o : Obj), W.heap[k]? = some o → k ≠ bm → (k < n ∨ o.isCells = true) → W'.heap[k]? = some o
theorem PartN.refl (n bm : Nat) (w : World) : PartN n bm w w := ⟨rfl, rfl, rfl, Nat.le_refl _, fun _ _ h _ _ => h⟩
theorem PartN.trans {n bm : Nat} {a b c : World} (h : PartN n bm a b) (k : PartN n bm b c) : PartN n bm a c :=
  ⟨k.os.trans h.os, k.tape.trans h.tape, k.output.trans h.output, Nat.le_trans h.size k.size, fun i o hi hn ho => k.same i o (h.same i o hi hn ho) hn ho⟩
theorem PartN.mono {n n' bm : Nat} {a b : World} (h : PartN n bm a b) (hn : n' ≤ n) : PartN n' bm a b := ⟨h.os, h.tape, h.output, h.size, fun k o hk hb ho => h.same k o hk hb (ho.imp (fun x => Nat.lt_of_lt_of_le x hn) id)⟩
theorem PartN.of_below {n bm : Nat} {W W' : World} (hb : Below W.heap.size W W') : PartN n bm W W' := ⟨hb.os, hb.tape, hb.output, hb.size, fun k _ hk _ _ => (hb.block k (Array.getElem?_eq_some_iff.1 hk).1).trans hk⟩
theorem PartN.of_grownBy {n bm : Nat} {W W' : World} (hg : W.grownBy W' (some bm)) : PartN n bm W W' :=
  ⟨hg.os, hg.tape, hg.output, hg.size, fun k _ hk hne _ => (hg.block k (Array.getElem?_eq_some_iff.1 hk).1 (fun e => hne (by injection e))).trans hk⟩
theorem PartN.putObj {n bm k : Nat} {W : World} {o : Obj} (o' : Obj) (h : W.heap[k]? = some o) (hc : o.isCells = false) (hk : n ≤ k) : PartN n bm W (W.putObj k o') :=
  ⟨rfl, rfl, rfl, by simp, fun j o2 hj _ ho => by
    by_cases e : j = k
    · subst e
      rw [h] at hj
      cases hj
      rcases ho with ho | ho
      · omega
      · rw [hc] at ho; cases ho
    · exact (World.putObj_heap_other e).trans hj⟩
theorem PartN.box {n bm B : Nat} {W W' : World} {t : TypeId} {cs : Array Value} (h : PartN n bm W W') (hb : Blk W B t cs) (hB : B ≠ bm) : Blk W' B t cs := h.same B _ hb hB (.inr rfl)
theorem PartN.own {n bm B : Nat} {W W' : World} {e : TypeId} {s k : Nat} {xs : List Value} {v : Value} (hp : PartN n bm W W') (h : W.ownsRow B e s v k xs) (hB : bm < B) : W'.ownsRow B e s v k xs := by
  refine ⟨h.1, ?_⟩
  rcases h.2 with h2 | ⟨g, cap, cur, hv, hg, hh, h3⟩
  · exact .inl h2
  · exact .inr ⟨g, cap, cur, hv, hg, hp.same g _ hh (by omega) (.inr rfl), h3⟩
/-- All that stands below n, but block bm. -/
structure BelowX (n bm : Nat) (W W' : World) : Prop where
  os : W'.os = W.os
  tape : W'.tape = W.tape
  output : W'.output = W.output
  size : W.heap.size ≤ W'.heap.size
  block : ∀ k, k < n → k ≠ bm → W'.heap[k]? = W.heap[k]?
theorem BelowX.refl (n bm : Nat) (w : World) : BelowX n bm w w := ⟨rfl, rfl, rfl, Nat.le_refl _, fun _ _ _ => rfl⟩
theorem BelowX.trans {n bm : Nat} {a b c : World} (h : BelowX n bm a b) (k : BelowX n bm b c) : BelowX n bm a c :=
  ⟨k.os.trans h.os, k.tape.trans h.tape, k.output.trans h.output, Nat.le_trans h.size k.size, fun i hi hn => (k.block i hi hn).trans (h.block i hi hn)⟩
theorem BelowX.of_below {n bm : Nat} {W W' : World} (hb : Below n W W') : BelowX n bm W W' := ⟨hb.os, hb.tape, hb.output, hb.size, fun k hk _ => hb.block k hk⟩
theorem BelowX.below {n n' bm : Nat} {W0 W W' : World} (h : BelowX n bm W W') (h0 : Below n' W0 W) (hn : n' ≤ n) (hb : n' ≤ bm) : Below n' W0 W' :=
  ⟨h.os.trans h0.os, h.tape.trans h0.tape, h.output.trans h0.output, Nat.le_trans h0.size h.size, fun k hk => (h.block k (by omega) (by omega)).trans (h0.block k hk)⟩
theorem BelowX.part {n bm : Nat} {W A A' : World} (h : BelowX n bm W A) (hp : PartN n bm A A') (hn : n ≤ W.heap.size) : BelowX n bm W A' :=
  ⟨hp.os.trans h.os, hp.tape.trans h.tape, hp.output.trans h.output, Nat.le_trans h.size hp.size, fun k hk hb => by
    have e := h.block k hk hb
    have hlt : k < A.heap.size := Nat.lt_of_lt_of_le hk (Nat.le_trans hn h.size)
    rw [← e]
    exact (hp.same k _ (Array.getElem?_eq_getElem hlt) hb (.inl hk)).trans (Array.getElem?_eq_getElem hlt).symm⟩
theorem room_of_none {F : Fence} (hd : F.depth = none) (k : Nat) : F.room k := fun d h => by rw [hd] at h; cases h
theorem RoundIn.anyDepth {F : Fence} (hd : F.depth = none) {m m' : Nat} {P : Program} {l : Nat} {f : FuncId} {tmps : Array Value} {assign body : Code} {w : World} {R : Ending → World → Prop}
    (h : RoundIn F m P l f tmps assign body w R) : RoundIn F m' P l f tmps assign body w R := ⟨h.1, fun c cs _ => h.2 c cs (room_of_none hd _)⟩
theorem YieldAt.anyDepth {F : Fence} (hd : F.depth = none) {m : Nat} (m' : Nat) {P : Program} {l : Nat} {args : Array Value} {W : World} {R : Ending → World → Prop} (h : YieldAt F m P l args W R) : YieldAt F m' P l args W R := by
  obtain ⟨fn, tmps, assign, body, hy, hR⟩ := h
  exact ⟨fn, tmps, assign, body, hy, RoundIn.anyDepth hd hR⟩
/-- An iterator that gives what l1 has behind l0, and turns nothing that lay but block bm; F0 holds behind it. -/
def Yields (P : Program) (gf : Nat) (lb : Array Value) (bm N : Nat) (l0 l1 : List Int) (w : World) (F0 : World → Prop) : Prop :=
  ∀ (n l : Nat) (J : List Int → World → Prop) (W : World), Below w.heap.size w W → l < W.heap.size →
    (∀ xs A A', J xs A → PartN W.heap.size bm A A' → J xs A') →
    (∀ xs x W1, xs.length < N → J xs W1 → YieldAt Fence.wide n P l #[.int .i64 x] W1 fun e W' => e = .returned (.bool true) ∧ J (xs ++ [x]) W' ∧ KeepX l W1 W') →
    J l0 W → CallsIn Fence.wide n P gf (#[.func (.yield l) #[] #[]] ++ lb) W fun e W' => (∃ v, e = .returned v) ∧ J l1 W' ∧ F0 W'
/-- What a round's body comes to. -/
def goesX (l : Nat) (I : List Int → World → Prop) (xs : List Int) (W : World) : Exit → Act → World → Prop
  | .normal, _, W' => KeepX l W W' ∧ W'.heap[l]? = W.heap[l]? ∧ I xs W'
  | _, _, _ => False

theorem Yields.later {P : Program} {gf bm N : Nat} {lb : Array Value} {l0 l1 : List Int} {w w' : World} {F0 : World → Prop} (h : Yields P gf lb bm N l0 l1 w F0) (hb : Below w.heap.size w w') : Yields P gf lb bm N l0 l1 w' F0 :=
  fun n l J W hW => h n l J W (hb.trans (hW.mono hb.size))
theorem rangeFunc_seen {P : Program} {n gf N bm : Nat} {g : Operand} {ps : Array Tmp} {assign body : Code} {Q : Exit → Act → World → Prop} {a : Act} {w : World} {lb : Array Value} {l0 l1 : List Int} {F0 : World → Prop}
    (hg : a.eval g = .func (.func gf) #[] lb) (eg : ∀ args w, (callFunc gf args).run P w = .ok (.enter gf args) w)
    (hseq : Yields P gf lb bm N l0 l1 w F0) (hbm : bm < w.heap.size) (hF0 : ∀ A k o, w.heap.size ≤ k → F0 A → F0 (A.putObj k o)) (hps : ps.size = 1)
    (I : List Int → World → Prop) (hI : ∀ xs A A', I xs A → PartN w.heap.size bm A A' → I xs A') (h0 : I l0 w) (a₁ : Int → Act)
    (hassign : ∀ (l : Nat) (x : Int) (W : World) (K : Act → World → Prop), K (a₁ x) W →
      assign.wpIn (Fence.wide.inRound l) (n - 1) P (Exit.then K (fun _ _ _ => False)) { tmps := (ps.zip #[Value.int .i64 x]).foldl (fun t (p, v) => t.setIfInBounds p v) a.tmps, defers := [] } W)
    (hbody : ∀ (l : Nat) (xs : List Int) (x : Int) (W : World), w.heap.size ≤ l → l < W.heap.size → (∃ r, W.heap[l]? = some (.loop r)) → I xs W → xs.length < N → body.wpIn (Fence.wide.inRound l) (n - 1) P (goesX l I (xs ++ [x]) W) (a₁ x) W)
    (hdone : ∀ (D : Nat) (W : World), w.heap.size ≤ D → I l1 W → F0 W → W.heap[D]? = some (.deferred (some [])) → Q .normal { a with defers := { target := .collected D, args := #[] } :: a.defers } W) :
    (Code.rangeFunc g ps assign body).wpIn Fence.wide n P Q a w := by
  refine wpIn_rangeFunc fun fn hfn => ?_
  obtain ⟨lp, hlp⟩ : ∃ lp : LoopState → Loop, lp = fun st => { state := st, pending := none, fn, tmps := a.tmps, params := ps, assign, body, defers := w.heap.size } := ⟨_, rfl⟩
  have hD : (w.alloc (.deferred (some []))).heap[w.heap.size]? = some (.deferred (some [])) := World.alloc_heap_new w _
  obtain ⟨w1, hw1⟩ : ∃ w1, (w.alloc (.deferred (some []))).alloc (.loop (lp .ready)) = w1 := ⟨_, rfl⟩
  have hz1 : w1.heap.size = w.heap.size + 2 := by rw [← hw1]; simp only [World.size_alloc]
  have e1 : w1.heap[w.heap.size + 1]? = some (.loop (lp .ready)) := by
    have := World.alloc_heap_new (w.alloc (.deferred (some []))) (.loop (lp .ready))
    rw [World.size_alloc] at this
    rw [← hw1]; exact this
  have e2 : w1.heap[w.heap.size]? = some (.deferred (some [])) := by
    rw [← hw1]; exact (Below.heap_alloc _ _ _ (by simp)).trans hD
  have hb1 : Below w.heap.size w w1 := by
    rw [← hw1]; exact ((Below.refl _ w).alloc (Nat.le_refl _) _).alloc (by simp) _
  have i1 : I l0 w1 := hI _ _ _ h0 (PartN.of_below hb1)
  refine ⟨w.heap.size + 1, [{ target := .collected w.heap.size, args := #[] }], w1, { target := .fn (.func gf) lb, args := #[.func (.yield (w.heap.size + 1)) #[] #[]] }, w1, gf,
    #[.func (.yield (w.heap.size + 1)) #[] #[]] ++ lb, w1, ?_, ?_, ?_, ?_, fun h => (by cases h), ?_⟩
  · rw [← hw1, hlp]; exact run_enterLoop_outer _ _ _ _ _
  · simp only [resolve, hg]
    simp [go_sem]
  · intro f' hf'; simp [Target.leads] at hf'; subst hf'; trivial
  · simp [invoke, go_sem, eg]
  refine (hseq (n - 1) (w.heap.size + 1) (fun xs W => I xs W ∧ W.heap[w.heap.size + 1]? = some (.loop (lp .ready)) ∧ W.heap[w.heap.size]? = some (.deferred (some []))) w1 hb1 (by omega)
    (fun xs A A' hs hp => ⟨hI xs A A' hs.1 (hp.mono (by omega)), hp.same _ _ hs.2.1 (by omega) (.inl (by omega)), hp.same _ _ hs.2.2 (by omega) (.inl (by omega))⟩) ?_ ⟨i1, e1, e2⟩).mono ?_
  · rintro xs x W hlen ⟨hi, hl, hd⟩
    have hlt : w.heap.size + 1 < W.heap.size := (Array.getElem?_eq_some_iff.1 hl).1
    have hy := run_yield (P := P) (args := #[Value.int .i64 x]) hl (by rw [hlp]; simp [hps])
    rw [hlp] at hy
    have hbr := run_beginRound (P := P) hl (by rw [hlp])
    refine ⟨fn, _, assign, body, hy, roundIn_of_wpIn hfn (hassign _ x W _ ⟨_, hbr, ?_⟩)⟩
    obtain ⟨X, hX⟩ : ∃ X, W.putObj (w.heap.size + 1) (.loop { lp .ready with state := .busy }) = X := ⟨_, rfl⟩
    have hlX : X.heap[w.heap.size + 1]? = some (.loop { lp .ready with state := .busy }) := by rw [← hX]; exact World.putObj_heap_same hlt
    have hdX : X.heap[w.heap.size]? = some (.deferred (some [])) := by rw [← hX]; exact (World.putObj_heap_other (by omega)).trans hd
    have iX : I xs X := by rw [← hX]; exact hI _ _ _ hi (PartN.putObj _ hl rfl (by omega))
    have kX : KeepX (w.heap.size + 1) W X := by rw [← hX]; exact KeepX.putLoop _ hl
    rw [hX]
    have hszX : w.heap.size + 1 < X.heap.size := by rw [← hX]; simpa using hlt
    refine wpIn_mono (hbody _ xs x X (by omega) hszX ⟨_, hlX⟩ iX hlen) ?_
    rintro e a3 W3 hp
    cases e with
    | normal =>
      obtain ⟨hk, hsame, hi3⟩ := hp
      have hl3 := hsame.trans hlX
      have hd3 := hk.same _ _ hdX trivial
      have hend := run_endRound (P := P) none hl3
      refine ⟨_, _, hend, rfl, ⟨hI _ _ _ hi3 (PartN.putObj _ hl3 rfl (by omega)), ?_, (World.putObj_heap_other (by omega)).trans hd3⟩, (kX.trans hk).trans (KeepX.putLoop _ hl3)⟩
      have := World.putObj_heap_same (w := W3) (o := .loop { { lp .ready with state := .busy } with state := if (none : Option Code).isNone then .ready else .done, pending := none }) (Array.getElem?_eq_some_iff.1 hl3).1
      rw [this, hlp]
      rfl
    | _ => exact hp.elim
  · rintro e W2 ⟨⟨v, rfl⟩, ⟨hi, hl, hd⟩, hf⟩
    have hend := run_endLoop (P := P) hl (by rw [hlp]; simp)
    rw [hlp] at hend
    exact ⟨none, _, hend, hdone _ _ (Nat.le_refl _) (hI _ _ _ hi (PartN.putObj _ hl rfl (by omega))) (hF0 _ _ _ (by omega) hf) ((World.putObj_heap_other (by omega)).trans hd)⟩
end Go.Proofs.YtlnckjemfabckaaDoor

/-
  slices.Collect of an iterator that marks what has come in a map of its caller's.
-/
namespace Go.Proofs.YtlnckjemfabckaaDoor
open Go.RowKit Go.Shelf
attribute [local go_sem] Oper.semAt_some

theorem infoIC : (Tryd.prog.info? 3).map (fun i => (i.zero, i.size, i.bytes)) = some (some (.int .i64 0), 1, 8) := by kernel_rfl
theorem keepX_append {l B base s n : Nat} {W w1 : World} {v v' : Value} {xs : List Value} {tmp : Obj} (hv : Boxed W B 66 v) (hrow : W.ownsRow base 3 s v n xs) (hg : (W.alloc tmp).grownBy w1 v.ownBlock) : KeepX l W (w1.setCell ⟨B, 0, none⟩ v') := by
  refine ⟨?_, fun k o hk hok => ?_⟩
  · have h1 := hg.size
    rw [World.size_alloc] at h1
    rw [World.size_setCell]
    omega
  · have hlt := (Array.getElem?_eq_some_iff.1 hk).1
    have hB : k ≠ B := fun e => by
      subst e
      rw [show W.heap[k]? = _ from hv] at hk
      cases hk
      exact hok.2 rfl
    have hR : some k ≠ v.ownBlock := fun e => by
      rcases hrow.2 with ⟨rfl, _⟩ | ⟨g, cap, cur, rfl, _, hgb, _⟩
      · simp [Value.ownBlock] at e
      · obtain rfl : k = g := by simpa [Value.ownBlock] using e
        rw [hgb] at hk
        cases hk
        exact hok.1 rfl
    refine (Below.heap_setCell w1 ⟨B, 0, none⟩ v' k hB).trans ((hg.block k (by rw [World.size_alloc]; omega) hR).trans ((Below.heap_alloc W tmp k hlt).trans hk))
/-- What lies in the box of the list. -/
def ColI (B base bm : Nat) (w : World) (xs : List Int) (W : World) : Prop :=
  (∃ v, Boxed W B 66 v ∧ W.ownsRow base 3 1 v xs.length (xs.map (Value.int .i64))) ∧ BelowX base bm w W
set_option maxRecDepth 100000 in
set_option maxHeartbeats 2000000 in
theorem appseq_in (gf bm N : Nat) (lb : Array Value) (l1 : List Int) (F0 : World → Prop) (w : World) (hN : N ≤ 100000) (hbm : bm < w.heap.size) (hseq : Yields Tryd.prog gf lb bm N [] l1 w F0)
    (hF0 : ∀ A k o, w.heap.size ≤ k → F0 A → F0 (A.putObj k o)) (eg : ∀ args w, (callFunc gf args).run Tryd.prog w = .ok (.enter gf args) w) :
    CallsIn Fence.wide 5 Tryd.prog 71 #[.slice none 0 0, .func (.func gf) #[] lb] w fun e W' => (∃ A c, e = .returned (.slice A l1.length c) ∧ W'.ownsRow w.heap.size 3 1 (.slice A l1.length c) l1.length (ints .i64 l1)) ∧ BelowX w.heap.size bm w W' ∧ F0 W' := by
  obtain ⟨i0, hi, hz0, hz1, hz2⟩ := info_parts infoIC
  refine callsIn_of_wp_marks Tryd.func71 rfl trivial ?_ rfl
  simp only [Tryd.ntmps71, List.size_toArray, List.length_cons, List.length_nil, Nat.reduceAdd, Nat.reduceSub, Array.replicate_succ, Array.replicate_zero, List.push_toArray, List.append_toArray, List.nil_append, List.cons_append]
  gi_wp2
  obtain ⟨W3, hW3⟩ : ∃ W3, w.alloc (.cells #[.slice none 0 0] 66) = W3 := ⟨_, rfl⟩
  have bO := Boxed.new w 66 (.slice none 0 0)
  have hB : Below w.heap.size w (w.alloc (.cells #[.slice none 0 0] 66)) := (Below.refl _ w).alloc (Nat.le_refl _) _
  have hsz : (w.alloc (.cells #[.slice none 0 0] 66)).heap.size = w.heap.size + 1 := World.size_alloc _ _
  rw [hW3] at bO hB hsz ⊢
  refine rangeFunc_seen (gf := gf) (lb := lb) rfl eg (hseq.later hB) (by omega) (fun A k o hk => hF0 A k o (by omega)) rfl
    (ColI w.heap.size w.heap.size bm w)
    (fun xs A A' h hp => by
      obtain ⟨⟨v, hv, hr⟩, hb⟩ := h
      exact ⟨⟨v, hp.box hv (by omega), hp.own hr hbm⟩, hb.part (hp.mono (by omega)) (Nat.le_refl _)⟩)
    ⟨⟨_, bO, World.ownsRow_nil _ _ _ _⟩, BelowX.of_below hB⟩
    (fun (x : Int) => { tmps := #[.slice none 0 0, .func (.func gf) #[] lb, .pointer (some ⟨w.heap.size, 0, none⟩), undef, .slice none 0 0, .int .i64 x, .func (.func gf) #[] lb, .int .i64 x, undef, undef, undef, undef, undef], defers := [] }) ?assign ?body ?done
  case assign =>
    intro l x W K hK
    gi_wp2
    exact hK
  case body =>
    rintro l pre x W hl1 hl2 ⟨r, hlr⟩ ⟨⟨v, hv, hrow⟩, hbx⟩ hlt
    have hc := hv.cell
    have hml : pre.length + 1 ≤ maxLen := Nat.le_trans (show pre.length + 1 ≤ 100001 by omega) (by decide)
    have hn0 : w.heap.size ≤ W.heap.size := hbx.size
    gi_wp2_with (gi_at_builtin; refine wpListIn_append_own _ rfl _ _ 66 rfl w.heap.size 3 i0 (.int .i64 0) 1 8 Tryd.underlying66 hi hz0 hz1 hz2 rfl (by decide) _ _ _ rfl (hrow.alloc _) ⟨W.heap.size, 0, none⟩ 1 1 [.int .i64 x] rfl rfl (cell_one_new _ _ _) (by simp [Value.oneCell']) (by omega) (by omega) (by simp; omega) ?_; intro v' w1 hown' hgrow _; obtain ⟨g', cap', rfl⟩ := ownsRow_succ hown'; obtain ⟨hv1, hv2, hr2, hk2, hb2⟩ := hv.appended (by decide) hrow hn0 (Nat.le_refl _) hown' hgrow; have hc1 := hv1.cell; have hf1 := hv1.frozen)
    have hb3 : BelowX w.heap.size bm w (w1.setCell ⟨w.heap.size, 0, none⟩ (.slice (some ⟨g', 0, none⟩) (pre.length + 1) cap')) := hbx.trans (BelowX.of_below hb2)
    exact ⟨keepX_append hv hrow hgrow, (hk2.same l _ hlr rfl).trans hlr.symm, ⟨_, hv2, by rw [List.length_append, List.map_append]; exact hr2⟩, hb3⟩
  case done =>
    rintro D W hD ⟨⟨v, hv, hrow⟩, hbx⟩ hf hK
    have hc := hv.cell
    obtain ⟨G, cg, rfl, _⟩ := own_reads hrow
    have HD := hide (show w.heap.size ≤ D by omega)
    gi_wp2
    refine ⟨by simp, .inl ⟨_, _, rfl, run_takeDeferred hK, ?_⟩⟩
    exact ⟨_, results_tmp rfl _ _ _, ⟨G, cg, rfl, ownsRow_putObj hrow _ hK rfl⟩, hbx.part (PartN.putObj _ hK rfl HD.out) (Nat.le_refl _), hF0 _ _ _ HD.out hf⟩
theorem collect_any (gf bm N : Nat) (lb : Array Value) (l1 : List Int) (F0 : World → Prop) (w : World) (hN : N ≤ 100000) (hbm : bm < w.heap.size) (hseq : Yields Tryd.prog gf lb bm N [] l1 w F0)
    (hF0 : ∀ A k o, w.heap.size ≤ k → F0 A → F0 (A.putObj k o)) (eg : ∀ args w, (callFunc gf args).run Tryd.prog w = .ok (.enter gf args) w) :
    Calls Tryd.prog 53 #[.func (.func gf) #[] lb] w fun e W' => (∃ A c, e = .returned (.slice A l1.length c) ∧ W'.ownsRow w.heap.size 3 1 (.slice A l1.length c) l1.length (ints .i64 l1)) ∧ BelowX w.heap.size bm w W' ∧ F0 W' := by
  have C := hide ((callsIn_wide (n := 5)).1 (appseq_in gf bm N lb l1 F0 w hN hbm hseq hF0 eg))
  clear hseq hF0 eg hN hbm
  go_enter Tryd.func53, Tryd.ntmps53
  go_wp2_with fail
  refine (C.out).mono ?_
  rintro e w1 ⟨⟨A, c, rfl, ho⟩, hb, hf⟩
  go_wp2_with fail
  go_ret
  exact ⟨⟨A, c, rfl, ho⟩, hb, hf⟩
end Go.Proofs.YtlnckjemfabckaaDoor

