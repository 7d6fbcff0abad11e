/-
  The Go function AdvanceKept, where it comes to its words.
-/
import Derived.Test.YtgcdmgpcfdfomaaDoorKeptW
import Derived.Test.YtgcdmgpcfdfomaaDoorHeldC
namespace Go.Proofs.YtgcdmgpcfdfomaaDoor
open Go.RowKit

theorem cells13 {w : World} {g : Nat} {T : TypeId} {c0 c1 c2 c3 c4 c5 c6 c7 c8 c9 c10 c11 c12 : Value} (h : Blk w g T #[c0, c1, c2, c3, c4, c5, c6, c7, c8, c9, c10, c11, c12]) : w.cell? ⟨g, 0, none⟩ = some c0 ∧ w.cell? ⟨g, 1, none⟩ = some c1 ∧ w.cell? ⟨g, 2, none⟩ = some c2 ∧ w.cell? ⟨g, 3, none⟩ = some c3 ∧ w.cell? ⟨g, 4, none⟩ = some c4 ∧ w.cell? ⟨g, 5, none⟩ = some c5 ∧ w.cell? ⟨g, 6, none⟩ = some c6 ∧ w.cell? ⟨g, 7, none⟩ = some c7 ∧ w.cell? ⟨g, 8, none⟩ = some c8 ∧ w.cell? ⟨g, 9, none⟩ = some c9 ∧ w.cell? ⟨g, 10, none⟩ = some c10 ∧ w.cell? ⟨g, 11, none⟩ = some c11 ∧ w.cell? ⟨g, 12, none⟩ = some c12 := ⟨h.cell 0, h.cell 1, h.cell 2, h.cell 3, h.cell 4, h.cell 5, h.cell 6, h.cell 7, h.cell 8, h.cell 9, h.cell 10, h.cell 11, h.cell 12⟩
theorem own_grown {w w' : World} {lo n g : Nat} {e : TypeId} {s : Nat} {v : Value} {xs : List Value} (h : w.ownsRow lo e s v n xs) (hg : w.grownBy w' (some g)) (hne : ∀ (w9 : World) (v9 : Value) (n9 : Nat) (xs9 : List Value), w9.ownsRow lo e s v9 n9 xs9 → v9.ownBlock ≠ some g) : w'.ownsRow lo e s v n xs :=
  h.kept hg (.inr (hne _ _ _ _ h))
theorem own_set1 {w : World} {base n g j : Nat} {e T : TypeId} {s : Nat} {v : Value} {xs : List Value} {cs : Array Value} (h : w.ownsRow base e s v n xs) (hb : Blk w g T cs) (hne : e ≠ T) (u : Value) : (w.setCell ⟨g, j, none⟩ u).ownsRow base e s v n xs :=
  h.kept (grown_set w g j u) (.inr (own_blk_ne h hb hne))
theorem own_put13 {w : World} {base n ga : Nat} {e T : TypeId} {s : Nat} {v : Value} {xs : List Value} {cs : Array Value} (h0 : w.ownsRow base e s v n xs) (b0 : Blk w ga T cs) (hne : e ≠ T) (v0 v1 v2 v3 v4 v5 v6 v7 v8 v9 v10 v11 v12 : Value) : (((((((((((((w.setCell ⟨ga, 0, none⟩ v0).setCell ⟨ga, 1, none⟩ v1).setCell ⟨ga, 2, none⟩ v2).setCell ⟨ga, 3, none⟩ v3).setCell ⟨ga, 4, none⟩ v4).setCell ⟨ga, 5, none⟩ v5).setCell ⟨ga, 6, none⟩ v6).setCell ⟨ga, 7, none⟩ v7).setCell ⟨ga, 8, none⟩ v8).setCell ⟨ga, 9, none⟩ v9).setCell ⟨ga, 10, none⟩ v10).setCell ⟨ga, 11, none⟩ v11).setCell ⟨ga, 12, none⟩ v12).ownsRow base e s v n xs := by
  have h1 := own_set1 (j := 0) h0 b0 hne v0
  have b1 := b0.set_ 0 v0
  have h2 := own_set1 (j := 1) h1 b1 hne v1
  have b2 := b1.set_ 1 v1
  have h3 := own_set1 (j := 2) h2 b2 hne v2
  have b3 := b2.set_ 2 v2
  have h4 := own_set1 (j := 3) h3 b3 hne v3
  have b4 := b3.set_ 3 v3
  have h5 := own_set1 (j := 4) h4 b4 hne v4
  have b5 := b4.set_ 4 v4
  have h6 := own_set1 (j := 5) h5 b5 hne v5
  have b6 := b5.set_ 5 v5
  have h7 := own_set1 (j := 6) h6 b6 hne v6
  have b7 := b6.set_ 6 v6
  have h8 := own_set1 (j := 7) h7 b7 hne v7
  have b8 := b7.set_ 7 v7
  have h9 := own_set1 (j := 8) h8 b8 hne v8
  have b9 := b8.set_ 8 v8
  have h10 := own_set1 (j := 9) h9 b9 hne v9
  have b10 := b9.set_ 9 v9
  have h11 := own_set1 (j := 10) h10 b10 hne v10
  have b11 := b10.set_ 10 v10
  have h12 := own_set1 (j := 11) h11 b11 hne v11
  have b12 := b11.set_ 11 v11
  exact own_set1 (j := 12) h12 b12 hne v12
theorem ref_put13 {w : World} {g ga : Nat} {ws : List Int} (h : RefOk w g ws) (hne : g ≠ ga) (v0 v1 v2 v3 v4 v5 v6 v7 v8 v9 v10 v11 v12 : Value) : RefOk (((((((((((((w.setCell ⟨ga, 0, none⟩ v0).setCell ⟨ga, 1, none⟩ v1).setCell ⟨ga, 2, none⟩ v2).setCell ⟨ga, 3, none⟩ v3).setCell ⟨ga, 4, none⟩ v4).setCell ⟨ga, 5, none⟩ v5).setCell ⟨ga, 6, none⟩ v6).setCell ⟨ga, 7, none⟩ v7).setCell ⟨ga, 8, none⟩ v8).setCell ⟨ga, 9, none⟩ v9).setCell ⟨ga, 10, none⟩ v10).setCell ⟨ga, 11, none⟩ v11).setCell ⟨ga, 12, none⟩ v12) g ws := (Blk.far (p := ⟨ga, 12, none⟩) (Blk.far (p := ⟨ga, 11, none⟩) (Blk.far (p := ⟨ga, 10, none⟩) (Blk.far (p := ⟨ga, 9, none⟩) (Blk.far (p := ⟨ga, 8, none⟩) (Blk.far (p := ⟨ga, 7, none⟩) (Blk.far (p := ⟨ga, 6, none⟩) (Blk.far (p := ⟨ga, 5, none⟩) (Blk.far (p := ⟨ga, 4, none⟩) (Blk.far (p := ⟨ga, 3, none⟩) (Blk.far (p := ⟨ga, 2, none⟩) (Blk.far (p := ⟨ga, 1, none⟩) (Blk.far (p := ⟨ga, 0, none⟩) h hne v0) hne v1) hne v2) hne v3) hne v4) hne v5) hne v6) hne v7) hne v8) hne v9) hne v10) hne v11) hne v12)
theorem av0_ok {own t : Int} (ht : 1 ≤ t ∧ t ≤ 64) (ho : 0 ≤ own ∧ own < t) : AvOk own t True ⟨1, 0, 0, 0, 0, 0, 0⟩ :=
  ⟨by simp, ⟨by simp, by simp⟩, ⟨by simp, by simp⟩, ⟨by simp, by simp⟩, ⟨by simp, by simp⟩, by simp, .inr ⟨trivial, ht, ho, ⟨by simp, by simp; omega⟩, by simp⟩, by simp, by simp⟩
theorem own_word {w : World} {lo N c j : Nat} {aw : Addr} {was : List Int} (o : w.ownsRow lo 29 1 (.slice (some aw) N c) N (ints .u64 was)) (hj : j < N) : w.cell? (aw.add j) = some (.int .u64 (was.getD j 0)) := by
  obtain ⟨A', c', e, hr⟩ := own_reads o
  simp only [Value.slice.injEq, true_and] at e
  obtain ⟨rfl, rfl⟩ := e
  obtain ⟨a', e, hl, z⟩ := hr.word hj
  injection e with e
  subst e
  rw [z, List.getD_eq_getElem?_getD, List.getElem?_eq_getElem hl]
  rfl
theorem own_word0 {w : World} {lo N c : Nat} {aw : Addr} {was : List Int} (o : w.ownsRow lo 29 1 (.slice (some aw) N c) N (ints .u64 was)) (hj : 0 < N) : w.cell? aw = some (.int .u64 (was.getD 0 0)) := by
  have := own_word o hj
  rwa [show aw.add 0 = aw by simp [Addr.add]] at this
theorem getD_w64 {ws : List Int} (h : AllW64 ws) {j : Nat} (hj : j < ws.length) : W64 (ws.getD j 0) := by
  rw [List.getD_eq_getElem?_getD, List.getElem?_eq_getElem hj]
  exact h _ (List.getElem_mem hj)
def KR1 (ws0 : List Int) (l0 : List (Int × Int)) (n g gc : Nat) (s t f l p : Int) (w : World) (i : Value) (wr : World) : Prop :=
  ∃ k : Nat, i = .int .i64 k ∧ k ≤ n ∧ RefOk wr g (wriL ws0 l0 k) ∧ Blk wr gc 23 #[.int .i64 s, .int .i64 t, .int .i64 f, .int .i64 l, .int .i64 p] ∧ Below w.heap.size w wr
def KR2 (was : List Int) (N g ga gc lo : Nat) (wv : Value) (s t f l p own : Int) (w : World) (i ok : Value) (wr : World) : Prop :=
  ∃ (x : Av) (ws : List Int) (n : Nat), i = .int .i64 n ∧ ok = .bool (x.k == 0) ∧ KInv own t p was x ws n ∧ AvOk own t True x ∧ AllW64 ws ∧ RefOk wr g ws ∧ Blk wr ga 39 #[.int .i64 s, .int .i64 t, .int .i64 f, .int .i64 l, .int .i64 p, .int .i64 own, .int .i64 x.k, .int .i64 x.oc, .int .u64 x.ep, .int .i64 x.th, .int .u64 x.wd, .int .u64 (x.ev : Int), .int .i64 x.ju] ∧ Blk wr gc 23 #[.int .i64 s, .int .i64 t, .int .i64 f, .int .i64 l, .int .i64 p] ∧ wr.ownsRow lo 29 1 wv N (ints .u64 was) ∧ Below w.heap.size w wr
def KR3 (was wsF : List Int) (N g ga gc lo : Nat) (wv : Value) (cs : Array Value) (s t f l p own : Int) (w : World) (fr i : Value) (wr : World) : Prop :=
  ∃ (q : Nat) (b : Bool), i = .int .i64 q ∧ (q : Int) ≤ t ∧ fr = .bool b ∧ (b = true ↔ freeU own p q was) ∧ RefOk wr g wsF ∧ Blk wr ga 39 cs ∧ Blk wr gc 23 #[.int .i64 s, .int .i64 t, .int .i64 f, .int .i64 l, .int .i64 p] ∧ wr.ownsRow lo 29 1 wv N (ints .u64 was) ∧ Below w.heap.size w wr
theorem u64_mod (a : Int) : IntKind.u64.wrap a = a % 18446744073709551616 := by
  simp [IntKind.wrap, IntKind.bits, IntKind.signed]
set_option maxRecDepth 100000 in
set_option maxHeartbeats 4000000 in
theorem kept_yes (s t f l p own : Int) (A : Option Addr) (n c : Nat) (l0 : List (Int × Int)) (w : World) (hT : Tab w) (hc : cfgOk s t f l p = true) (hn : n ≤ 100) (hsz : laySize s t f ≤ 5000) (hown : 0 ≤ own ∧ own < t) (hr : Reads w w.heap.size 2 A n (recW l0)) (hw : ∀ r ∈ l0, W64 r.2) :
    Calls Tryd.prog 3 #[.agg #[.int .i64 s, .int .i64 t, .int .i64 f, .int .i64 l, .int .i64 p], .int .i64 own, .slice A n c] w fun e w' => e = .returned (.bool true) ∧ Below w.heap.size w w' := by
  have hb := cfgOk_iff.1 hc
  have hs : 1 ≤ s ∧ s ≤ 1000 := by omega
  have ht : 1 ≤ t ∧ t ≤ 64 := by omega
  have hf : 4 ≤ f ∧ f ≤ 64 := by omega
  have hp : I64 p := ⟨by omega, by omega⟩
  have hsp := size_pos hs ht hf
  obtain ⟨N, hN⟩ : ∃ N : Nat, laySize s t f = N := Int.eq_ofNat_of_zero_le (by omega)
  have hwr : wrg s t f l p < 0 := by have := wrg_ok (s := s) (t := t) (f := f) (l := l) (p := p); rw [hc] at this; simpa using this.symm
  have WR := hide (fun w2 => wrong_any s t f l p w2)
  have RS := hide (fun w2 => rsize_any s t f l p w2)
  rw [show rSize s t f l p = (N : Int) by unfold rSize; rw [if_pos hc]; exact hN] at RS
  have NW := hide (fun w2 => rnew10_any s t f l p N w2 hc hN)
  have hbl : (begL s t f).length = N := by rw [begL_len]; omega
  have hbw := begL_w64 (s := s) (t := t) (f := f) (by omega)
  have NL := hide (fun w2 hb => new_yes s t f l p w2 (hT.below hb) hc)
  have AN := hide (fun w2 => anew_yes s t f l p own w2 hs ht hf hown)
  have HT := hide hT
  generalize begL s t f = ws0 at *
  generalize wrg s t f l p = wr0 at *
  have d0 : decide ((100 : Int) < (n : Int)) = false := (by rw [decide_eq_false_iff_not]; omega)
  have d1 : decide ((0 : Int) ≤ wr0) = false := (by rw [decide_eq_false_iff_not]; omega)
  have d2 : decide ((5000 : Int) < (N : Int)) = false := (by rw [decide_eq_false_iff_not]; omega)
  have d3 : decide (own < 0) = false := (by rw [decide_eq_false_iff_not]; omega)
  have d4 : decide (t ≤ own) = false := (by rw [decide_eq_false_iff_not]; omega)
  have HN := hide hN
  have HS3 := hide (show 3 + t ≤ (N : Int) by omega)
  have HB := hide hb
  have HNB := hide (show N ≤ 1000000 by omega)
  have HBL := hide hbl
  clear hN hb hsp hbl hc hT hsz hwr
  have B0 := (Below.refl w.heap.size w).alloc (Nat.le_refl _) (.cells #[.int .i64 s, .int .i64 t, .int .i64 f, .int .i64 l, .int .i64 p] 23)
  have bc := Blk.new w 23 #[.int .i64 s, .int .i64 t, .int .i64 f, .int .i64 l, .int .i64 p]
  have mc := fun i => bc.cell i
  go_enter Tryd.func3, Tryd.ntmps3
  go_wp2_with fail
  refine (WR.out _).mono ?_
  rintro e w1 ⟨rfl, hb1⟩
  clear mc
  replace bc := bc.below hb1 bc.lt
  replace B0 := B0.trans (hb1.mono B0.size)
  clear hb1
  have mc := fun i => bc.cell i
  go_wp2_with fail
  refine (RS.out _).mono ?_
  rintro e w2 ⟨rfl, hb1⟩
  clear mc
  replace bc := bc.below hb1 bc.lt
  replace B0 := B0.trans (hb1.mono B0.size)
  clear hb1
  have mc := fun i => bc.cell i
  go_wp2_with fail
  refine (NW.out _).mono ?_
  rintro e w3 ⟨⟨g, rfl, R, hg⟩, hb1⟩
  clear mc
  have HG := hide (Nat.le_trans B0.size hg)
  have HCG := hide (show some w.heap.size ≠ some g from fun e => by have h1 := bc.lt; injection e with e; omega)
  replace bc := bc.below hb1 bc.lt
  replace B0 := B0.trans (hb1.mono B0.size)
  clear hb1
  clear hg
  have mc := fun i => bc.cell i
  go_wp2_with fail
  clear mc WR RS NW d0 d1 d2 d3 d4
  go_loopw [8] (KR1 ws0 l0 n g w.heap.size s t f l p w) (fun i _ => n - (intOf i).toNat)
  case atStart => exact ⟨0, rfl, Nat.zero_le _, R, bc, B0⟩
  case round =>
    clear R bc B0
    obtain ⟨k, rfl, hk, R, bc, B0⟩ := hrel
    by_cases hlt : k < n
    · obtain ⟨a, rfl, hab, hkl, y0, z0⟩ := hr.wri hlt
      have HY := hide (fun w9 (hB : Below w.heap.size w w9) => (hr.below hB).wri hlt)
      have HS := hide (show wriL ws0 l0 (k + 1) = (mDo (wriL ws0 l0 k) 2 l0[k].1 0 l0[k].2).2 by
        show wPut (wriL ws0 l0 k) (l0.getD k (0, 0)).1 (l0.getD k (0, 0)).2 = _
        rw [List.getD_eq_getElem?_getD, List.getElem?_eq_getElem hkl]
        unfold mDo
        rw [if_neg (by omega), if_pos rfl]
        rfl)
      have HZ := hide (fun w9 (hB : Below w.heap.size w w9) => (show w9.cell? ⟨(a.add (k * 2)).block, (a.add (k * 2)).off + 1, none⟩ = some (.int .u64 l0[k].2) from by
        obtain ⟨a', e, _, _, _, h2⟩ := HY.out w9 hB
        injection e with e; subst e; exact h2))
      replace HY := hide (fun w9 (hB : Below w.heap.size w w9) => (show w9.cell? (a.add (k * 2)) = some (.int .i64 l0[k].1) from by
        obtain ⟨a', e, _, _, h2, _⟩ := HY.out w9 hB
        injection e with e; subst e; exact h2))
      have DO := hide (fun w9 (R : RefOk w9 g (wriL ws0 l0 k)) => rdo_any g N 2 l0[k].1 0 l0[k].2 (wriL ws0 l0 k) w9 R)
      rw [wriL_len, HBL.out] at DO
      have hkz : (k : Int) < (n : Int) := by omega
      clear y0 z0
      generalize l0[k].1 = y at *
      generalize l0[k].2 = z at *
      go_wp2_with fail
      refine wp_region_heldZ [12] (fun w' => w'.cell? (a.add (k * 2)) = some (.int .i64 y) ∧ w'.cell? ⟨(a.add (k * 2)).block, (a.add (k * 2)).off + 1, none⟩ = some (.int .u64 z)) (by kernel_rfl) (by first | exact ⟨HY.out _ B0, HZ.out _ B0⟩ | exact ⟨HY.out _ B0.drew, HZ.out _ B0.drew⟩) (fun hHeld => ?_)
      replace R := (show RefOk wr.drew g _ from R)
      replace bc := bc.drew
      replace B0 := B0.drew
      generalize wr.drew = w0x at *
      refine' wpAnyZ_takeA (i := 0) (v := ?_) (opAt rfl) (by kernel_rfl) (by kernel_rfl) (by kernel_rfl) (by kernel_rfl) (fun _ _ _ h => h) (by assumption) (by rfl) (fun w hSw => ?_) ?_
      rotate_left
      · (try dsimp only at hSw); go_simp; (try with_reducible rfl)
      try simp only [Act.put, List.setIfInBounds_toArray, List.set_cons_zero, List.set_cons_succ]
      refine' wpAnyZ_takeA (i := 1) (v := ?_) (opAt rfl) (by kernel_rfl) (by kernel_rfl) (by kernel_rfl) (by kernel_rfl) (fun _ _ _ h => h) (by assumption) (by rfl) (fun w hSw => ?_) ?_
      rotate_left
      · (try dsimp only at hSw); go_simp; (try with_reducible rfl)
      try simp only [Act.put, List.setIfInBounds_toArray, List.set_cons_zero, List.set_cons_succ]
      refine' wpAnyZ_takeA (i := 2) (v := ?_) (opAt rfl) (by kernel_rfl) (by kernel_rfl) (by kernel_rfl) (by kernel_rfl) (fun _ _ _ h => h) (by assumption) (by rfl) (fun w hSw => ?_) ?_
      rotate_left
      · (try dsimp only at hSw); go_simp; (try with_reducible rfl)
      try simp only [Act.put, List.setIfInBounds_toArray, List.set_cons_zero, List.set_cons_succ]
      refine' wpAnyZ_takeA (i := 3) (v := ?_) (opAt rfl) (by kernel_rfl) (by kernel_rfl) (by kernel_rfl) (by kernel_rfl) (fun _ _ _ h => h) (by assumption) (by rfl) (fun w hSw => ?_) ?_
      rotate_left
      · (try dsimp only at hSw); go_simp; (try with_reducible rfl)
      try simp only [Act.put, List.setIfInBounds_toArray, List.set_cons_zero, List.set_cons_succ]
      refine' wpAnyZ_takeA (i := 4) (v := ?_) (opAt rfl) (by kernel_rfl) (by kernel_rfl) (by kernel_rfl) (by kernel_rfl) (fun _ _ _ h => h) (by assumption) (by rfl) (fun w hSw => ?_) ?_
      rotate_left
      · (try dsimp only at hSw); go_simp; (try with_reducible rfl)
      try simp only [Act.put, List.setIfInBounds_toArray, List.set_cons_zero, List.set_cons_succ]
      refine' wpAnyZ_takeA (i := 5) (v := ?_) (opAt rfl) (by kernel_rfl) (by kernel_rfl) (by kernel_rfl) (by kernel_rfl) (fun _ _ _ h => h) (by assumption) (by rfl) (fun w hSw => ?_) ?_
      rotate_left
      · (try dsimp only at hSw); go_simp; (try with_reducible rfl)
      try simp only [Act.put, List.setIfInBounds_toArray, List.set_cons_zero, List.set_cons_succ]
      refine' wpAnyZ_takeA (i := 6) (v := ?_) (opAt rfl) (by kernel_rfl) (by kernel_rfl) (by kernel_rfl) (by kernel_rfl) (fun _ _ _ h => h) (by assumption) (by rfl) (fun w hSw => ?_) ?_
      rotate_left
      · (try dsimp only at hSw); go_simp; (try with_reducible rfl)
      try simp only [Act.put, List.setIfInBounds_toArray, List.set_cons_zero, List.set_cons_succ]
      refine' wpAnyZ_takeA (i := 7) (v := ?_) (opAt rfl) (by kernel_rfl) (by kernel_rfl) (by kernel_rfl) (by kernel_rfl) (fun _ _ _ h => h) (by assumption) (by rfl) (fun w hSw => ?_) ?_
      rotate_left
      · (try dsimp only at hSw); go_simp; (try with_reducible rfl)
      try simp only [Act.put, List.setIfInBounds_toArray, List.set_cons_zero, List.set_cons_succ]
      refine' wpAnyZ_takeA (i := 8) (v := ?_) (opAt rfl) (by kernel_rfl) (by kernel_rfl) (by kernel_rfl) (by kernel_rfl) (fun _ _ _ h => h) (by assumption) (by rfl) (fun w hSw => ?_) ?_
      rotate_left
      · (try dsimp only at hSw); go_simp; (try with_reducible rfl)
      try simp only [Act.put, List.setIfInBounds_toArray, List.set_cons_zero, List.set_cons_succ]
      refine' wpAnyZ_takeA (i := 9) (v := ?_) (opAt rfl) (by kernel_rfl) (by kernel_rfl) (by kernel_rfl) (by kernel_rfl) (fun _ _ _ h => h) (by assumption) (by rfl) (fun w hSw => ?_) ?_
      rotate_left
      · (try dsimp only at hSw); go_simp; (try with_reducible rfl)
      try simp only [Act.put, List.setIfInBounds_toArray, List.set_cons_zero, List.set_cons_succ]
      refine' wpAnyZ_takeA (i := 10) (v := ?_) (opAt rfl) (by kernel_rfl) (by kernel_rfl) (by kernel_rfl) (by kernel_rfl) (fun _ _ _ h => h) (by assumption) (by rfl) (fun w hSw => ?_) ?_
      rotate_left
      · (try dsimp only at hSw); go_simp; (try with_reducible rfl)
      try simp only [Act.put, List.setIfInBounds_toArray, List.set_cons_zero, List.set_cons_succ]
      refine' wpAnyZ_takeA (i := 11) (v := ?_) (opAt rfl) (by kernel_rfl) (by kernel_rfl) (by kernel_rfl) (by kernel_rfl) (fun _ _ _ h => h) (by assumption) (by rfl) (fun w hSw => ?_) ?_
      rotate_left
      · (try dsimp only at hSw); go_simp; (try with_reducible rfl)
      try simp only [Act.put, List.setIfInBounds_toArray, List.set_cons_zero, List.set_cons_succ]
      refine wpAnyZ_ready (rs := [12]) (by kernel_rfl) (by simp) ?_
      refine AllReadyZ.last (opAt rfl) (by kernel_rfl) (fun K hK => ?_) ?_
      · skip
        go_simp
        refine (DO.out _ R).mono ?_
        rintro e wd ⟨rfl, R9, hg9⟩
        have bc9 := bc.grown hg9 HCG.out
        have B9 := below_grown B0 hg9 HG.out B0.size
        refine hK.out _ _ ?_
        clear hK K
        try simp only [Act.put, List.setIfInBounds_toArray, List.set_cons_zero, List.set_cons_succ]
        refine wpAnyZ_done (by kernel_rfl) ?_ _
        go_wp2_with fail
        go_roundw
        case measure => simp [intOf]; omega
        case rel => exact ⟨k + 1, by go_num, by omega, by rw [show wriL ws0 l0 (k + 1) = (mDo (wriL ws0 l0 k) 2 y 0 z).2 from HS.out]; exact R9, bc9, B9⟩
      exact AllReadyZ.nil
    · have hkn : k = n := by omega
      have HKN := hide hkn
      clear hkn
      go_wp2_with fail
      refine (copy09_any g N N (wriL ws0 l0 k) wr (by rw [wriL_len]; exact HBL.out) HNB.out R).mono ?_
      rintro e w4 ⟨⟨wv, rfl, orow⟩, hb1⟩
      have HLG := hide (show g < wr.heap.size from Blk.lt (w := wr) (g := g) R)
      replace bc := bc.below hb1 bc.lt
      replace R := R.below hb1
      replace B0 := B0.trans (hb1.mono B0.size)
      clear hb1
      obtain ⟨Aw, cw, rfl, _⟩ := own_reads orow
      have mc := fun i => bc.cell i
      go_wp2_with fail
      refine (NL.out _ B0).mono ?_
      rintro e w5 ⟨rfl, hb1⟩
      clear mc
      replace bc := bc.below hb1 bc.lt
      replace R := R.below hb1
      replace orow := own_below orow hb1
      replace B0 := B0.trans (hb1.mono B0.size)
      clear hb1
      go_wp2_with fail
      refine (AN.out _).mono ?_
      rintro e w6 ⟨rfl, hb1⟩
      replace bc := bc.below hb1 bc.lt
      replace R := R.below hb1
      replace orow := own_below orow hb1
      replace B0 := B0.trans (hb1.mono B0.size)
      clear hb1
      go_wp2_with fail
      have ba := Blk.new w6 39 #[.int .i64 s, .int .i64 t, .int .i64 f, .int .i64 l, .int .i64 p, .int .i64 own, .int .i64 1, .int .i64 0, .int .u64 0, .int .i64 0, .int .u64 0, .int .u64 0, .int .i64 0]
      have hb1 := (Below.refl w6.heap.size w6).alloc (Nat.le_refl _) (.cells #[.int .i64 s, .int .i64 t, .int .i64 f, .int .i64 l, .int .i64 p, .int .i64 own, .int .i64 1, .int .i64 0, .int .u64 0, .int .i64 0, .int .u64 0, .int .u64 0, .int .i64 0] 39)
      have HGA := hide (show w.heap.size ≤ w6.heap.size from B0.size)
      have HGA2 := hide (show g < w6.heap.size from Blk.lt (w := w6) (g := g) R)
      replace bc := bc.below hb1 bc.lt
      replace R := R.below hb1
      replace orow := own_below orow hb1
      replace B0 := B0.trans (hb1.mono B0.size)
      clear hb1
      generalize w6.alloc (.cells #[.int .i64 s, .int .i64 t, .int .i64 f, .int .i64 l, .int .i64 p, .int .i64 own, .int .i64 1, .int .i64 0, .int .u64 0, .int .i64 0, .int .u64 0, .int .u64 0, .int .i64 0] 39) = w7 at *
      generalize w6.heap.size = ga at *
      have hwl : (wriL ws0 l0 k).length = N := by rw [wriL_len]; exact HBL.out
      have hww : AllW64 (wriL ws0 l0 k) := wriL_w64 hbw hw k
      have HLO := hide HLG.out
      obtain ⟨lo, hlo⟩ : ∃ lo, lo = wr.heap.size := ⟨_, rfl⟩
      rw [← hlo] at orow HLO
      have HOG := hide (fun (w9 : World) (v9 : Value) (n9 : Nat) (xs9 : List Value) (h : w9.ownsRow lo 29 1 v9 n9 xs9) => (show v9.ownBlock ≠ some g from fun e => by have h1 := (h.lt g e).1; have h2 := HLO.out; omega))
      have HNG := hide (fun (w9 : World) (cs9 : Array Value) (T9 : TypeId) (ws9 : List Int) (h1 : Blk w9 ga T9 cs9) (h2 : RefOk w9 g ws9) => (show some ga ≠ some g from fun e => by injection e with e; have h3 := HGA2.out; omega))
      have HGG := hide (fun (w9 : World) (cs9 : Array Value) (T9 : TypeId) (ws9 : List Int) (_ : Blk w9 ga T9 cs9) (_ : RefOk w9 g ws9) => (show g ≠ ga from fun e => by have h3 := HGA2.out; omega))
      generalize wriL ws0 l0 k = was at *
      clear hr hw hlo HLG HKN hbw
      have ma := fun i => ba.cell i
      have mc := fun i => bc.cell i
      have D0 := adone_n s t f l p own 0 0 0 0 0 0 1 w7 rfl
      refine D0.mono ?_
      rintro e w8 ⟨rfl, hb1⟩
      clear D0 ma mc
      replace ba := ba.below hb1 ba.lt
      replace bc := bc.below hb1 bc.lt
      replace R := R.below hb1
      replace orow := own_below orow hb1
      replace B0 := B0.trans (hb1.mono B0.size)
      clear hb1
      go_wp2_with fail
      go_loopw [11, 13] (KR2 was N g ga w.heap.size lo (.slice Aw N cw) s t f l p own w) (fun i _ _ => (3 * t + 3).toNat - (intOf i).toNat)
      case atStart => exact ⟨⟨1, 0, 0, 0, 0, 0, 0⟩, was, 0, rfl, rfl, .inl ⟨rfl, rfl, rfl, rfl⟩, av0_ok ht hown, hww, R, ba, bc, orow, B0⟩
      case round =>
        clear ba bc orow B0 R
        obtain ⟨x, ws, nn, rfl, rfl, hI, hA, h64, R, ba, bc, orow, B0⟩ := hrel
        have hbd := hI.bound hown
        have e1 : IntKind.i64.wrap (3 * t) = 3 * t := IntWalk.i64_in _ (by omega)
        have e2 : IntKind.i64.wrap (3 * t + 2) = 3 * t + 2 := IntWalk.i64_in _ (by omega)
        by_cases h0 : x.k = 0
        · have hF := hide (hI.fin h0)
          have hk : (x.k == 0) = true := by simpa using h0
          rw [hk]
          have HK0 := hide h0
          have hnb : decide (3 * (t - 1) + 2 < (nn : Int)) = false := by rw [decide_eq_false_iff_not]; omega
          have e3 : IntKind.i64.wrap (t - 1) = t - 1 := IntWalk.i64_in _ (by omega)
          have e4 : IntKind.i64.wrap (3 * (t - 1)) = 3 * (t - 1) := IntWalk.i64_in _ (by omega)
          have e5 : IntKind.i64.wrap (3 * (t - 1) + 2) = 3 * (t - 1) + 2 := IntWalk.i64_in _ (by omega)
          have mc := fun i => bc.cell i
          clear h0 hbd hI
          go_wp2_with fail
          have e1x := HK0.out
          obtain ⟨A', c', e0x, hrd⟩ := own_reads orow
          simp only [Value.slice.injEq, true_and] at e0x
          obtain ⟨rfl, rfl⟩ := e0x
          obtain ⟨aw, rfl, _, _⟩ := hrd.word (k := 0) (by have := HS3.out; omega)
          clear hrd e1x
          have WX := hide (fun (w9 : World) (o : w9.ownsRow lo 29 1 (.slice (some aw) N cw) N (ints .u64 was)) (j : Nat) (hj : j < N) => own_word o hj)
          have DN := hide (fun w2 => adone_any s t f l p own x w2)
          simp only [avV] at DN
          rw [if_pos HK0.out, hk] at DN
          have HWF := hide (fun (q : Nat) (hq : (q : Int) < t) => KFin.word hF.out (by rw [hwl]; exact HS3.out) hq)
          have HEND := hide (hF.out.end_ (by omega) (by rw [hwl]; exact HS3.out))
          have hwsl : ws.length = N := hF.out.len.trans hwl
          have RO : rO x = max x.oc 1 := by unfold rO; rw [if_pos HK0.out]
          have HW6 := hide hww
          clear mc hnb e3 e4 e5 e1 e2 hF HK0
          go_loopw [14, 15] (KR3 was ws N g ga w.heap.size lo (.slice (some aw) N cw) #[.int .i64 s, .int .i64 t, .int .i64 f, .int .i64 l, .int .i64 p, .int .i64 own, .int .i64 x.k, .int .i64 x.oc, .int .u64 x.ep, .int .i64 x.th, .int .u64 x.wd, .int .u64 (x.ev : Int), .int .i64 x.ju] s t f l p own w) (fun _ i _ => t.toNat - (intOf i).toNat)
          case atStart => exact ⟨0, true, rfl, by omega, rfl, ⟨fun _ => freeU_zero own p was, fun _ => rfl⟩, R, ba, bc, orow, B0⟩
          case round =>
            clear R ba bc orow B0
            obtain ⟨q, b, rfl, hqt, rfl, hbq, R, ba, bc, orow, B0⟩ := hrel
            by_cases hlt : (q : Int) < t
            · have RA := hide (fun w2 => rann_any s t f l p q w2 (by omega))
              rw [show 3 + (q : Int) = ((3 + q : Nat) : Int) by omega] at RA
              have hq3 : ((3 + q : Nat) : Int) < (N : Int) := by have := HS3.out; omega
              have hq3' : 3 + q < N := by have := HS3.out; omega
              have hN1 : (1 : Int) < (N : Int) := by have := HS3.out; omega
              have hN0 : (0 : Int) < (N : Int) := by have := HS3.out; omega
              have hx64 : W64 (was.getD (3 + q) 0) := getD_w64 HW6.out (by rw [hwl]; exact hq3')
              have h064 : W64 (was.getD 0 0) := getD_w64 HW6.out (by rw [hwl]; omega)
              have h164 : W64 (was.getD 1 0) := getD_w64 HW6.out (by rw [hwl]; omega)
              have BL := hide (fun w2 => rablocks_any (was.getD (3 + q) 0) (was.getD 0 0) w2 hx64 h064)
              have SL := hide (fun w2 => rastall_any (was.getD (3 + q) 0) (was.getD 1 0) p w2 hx64 h164 hp)
              have EV := hide (fun w2 => raevict_any (was.getD (3 + q) 0) w2 hx64)
              have hW := HWF.out q hlt
              have hS := freeU_succ (own := own) (p := p) (was := was) (q := q)
              have ZX := hide (fun (w9 : World) (o : w9.ownsRow lo 29 1 (.slice (some aw) N cw) N (ints .u64 was)) => And.intro (WX.out w9 o (3 + q) hq3') (And.intro (own_word0 o (by omega)) (WX.out w9 o 1 (by omega))))
              have ZY := hide (fun (w9 : World) (R : RefOk w9 g ws) => R.at_ (j := 3 + q) (by rw [hwsl]; exact hq3'))
              have hms := hide (show t.toNat - (q + 1) < t.toNat - q by omega)
              have hq1 := hide (show ((q + 1 : Nat) : Int) ≤ t by omega)
              have hcast := hide (show ((q + 1 : Nat) : Int) = (q : Int) + 1 by omega)
              clear hx64 h064 h164
              generalize was.getD (3 + q) 0 = xv at *
              generalize was.getD 0 0 = ev0 at *
              generalize was.getD 1 0 = ev1 at *
              generalize ws.getD (3 + q) 0 = yv at *
              generalize 3 + q = q3 at *
              by_cases ho : (q : Int) = own
              · have hoq : ((q : Int) != own) = false := by simpa using ho
                have hy : yv = xv := hW.2 (fun h => h.2.1 ho)
                subst hy
                cases b with
                | true =>
                  have HBN := hide (show (true = true ↔ freeU own p ((q : Int) + 1) was) from hbq.trans ⟨fun h => hS.2 ⟨h, fun h1 => absurd ho h1⟩, fun h => (hS.1 h).1⟩)
                  clear hbq hS hW
                  clear ho
                  have mc := fun i => bc.cell i
                  have zx := ZX.out _ orow
                  obtain ⟨zx1, zx2, zx3⟩ := zx
                  go_wp2_with fail
                  refine (RA.out _).mono ?_
                  rintro e wa ⟨rfl, hb1⟩
                  clear mc zx1 zx2 zx3
                  replace ba := ba.below hb1 ba.lt
                  replace bc := bc.below hb1 bc.lt
                  replace R := R.below hb1
                  replace orow := own_below orow hb1
                  replace B0 := B0.trans (hb1.mono B0.size)
                  clear hb1
                  have mc := fun i => bc.cell i
                  obtain ⟨zx1, zx2, zx3⟩ := ZX.out _ orow
                  have zy := ZY.out _ R
                  go_wp2_with fail
                  refine (RA.out _).mono ?_
                  rintro e wb ⟨rfl, hb1⟩
                  clear mc zx1 zx2 zx3 zy
                  replace ba := ba.below hb1 ba.lt
                  replace bc := bc.below hb1 bc.lt
                  replace R := R.below hb1
                  replace orow := own_below orow hb1
                  replace B0 := B0.trans (hb1.mono B0.size)
                  clear hb1
                  have mc := fun i => bc.cell i
                  obtain ⟨zx1, zx2, zx3⟩ := ZX.out _ orow
                  have zy := ZY.out _ R
                  go_wp2_with fail
                  clear mc zx1 zx2 zx3 zy
                  refine wp_region_heldZ [] (fun w' => w'.cell? ⟨aw.block, aw.off + 1, none⟩ = some (.int .u64 ev1) ∧ w'.cell? ⟨w.heap.size, 4, none⟩ = some (.int .i64 p)) (by kernel_rfl) (by exact ⟨(ZX.out _ orow).2.2, bc.cell 4⟩) (fun hHeld => ?_)
                  replace ba := ba.drew
                  replace bc := bc.drew
                  replace R := (show RefOk wb.drew g _ from R)
                  replace orow := (show wb.drew.ownsRow _ _ _ _ _ _ from orow)
                  replace B0 := B0.drew
                  generalize wb.drew = w0y at *
                  refine' wpAnyZ_takeA (i := 0) (v := ?_) (opAt rfl) (by kernel_rfl) (by kernel_rfl) (by kernel_rfl) (by kernel_rfl) (fun _ _ _ h => h) (by assumption) (by rfl) (fun w hSw => ?_) ?_
                  rotate_left
                  · (try dsimp only at hSw); go_simp; (try with_reducible rfl)
                  try simp only [Act.put, List.setIfInBounds_toArray, List.set_cons_zero, List.set_cons_succ]
                  refine' wpAnyZ_takeA (i := 1) (v := ?_) (opAt rfl) (by kernel_rfl) (by kernel_rfl) (by kernel_rfl) (by kernel_rfl) (fun _ _ _ h => h) (by assumption) (by rfl) (fun w hSw => ?_) ?_
                  rotate_left
                  · (try dsimp only at hSw); go_simp; (try with_reducible rfl)
                  try simp only [Act.put, List.setIfInBounds_toArray, List.set_cons_zero, List.set_cons_succ]
                  refine' wpAnyZ_takeA (i := 2) (v := ?_) (opAt rfl) (by kernel_rfl) (by kernel_rfl) (by kernel_rfl) (by kernel_rfl) (fun _ _ _ h => h) (by assumption) (by rfl) (fun w hSw => ?_) ?_
                  rotate_left
                  · (try dsimp only at hSw); go_simp; (try with_reducible rfl)
                  try simp only [Act.put, List.setIfInBounds_toArray, List.set_cons_zero, List.set_cons_succ]
                  refine' wpAnyZ_takeA (i := 3) (v := ?_) (opAt rfl) (by kernel_rfl) (by kernel_rfl) (by kernel_rfl) (by kernel_rfl) (fun _ _ _ h => h) (by assumption) (by rfl) (fun w hSw => ?_) ?_
                  rotate_left
                  · (try dsimp only at hSw); go_simp; (try with_reducible rfl)
                  try simp only [Act.put, List.setIfInBounds_toArray, List.set_cons_zero, List.set_cons_succ]
                  refine' wpAnyZ_takeA (i := 4) (v := ?_) (opAt rfl) (by kernel_rfl) (by kernel_rfl) (by kernel_rfl) (by kernel_rfl) (fun _ _ _ h => h) (by assumption) (by rfl) (fun w hSw => ?_) ?_
                  rotate_left
                  · (try dsimp only at hSw); go_simp; (try with_reducible rfl)
                  try simp only [Act.put, List.setIfInBounds_toArray, List.set_cons_zero, List.set_cons_succ]
                  refine' wpAnyZ_skipA (i := 5) _ rfl (opAt rfl) (by kernel_rfl) (by kernel_rfl) (by kernel_rfl) (by kernel_rfl) (fun _ _ _ h => h) (by assumption) (by rfl) ?_
                  try simp only [Act.put, List.setIfInBounds_toArray, List.set_cons_zero, List.set_cons_succ]
                  refine' wpAnyZ_skipA (i := 6) _ rfl (opAt rfl) (by kernel_rfl) (by kernel_rfl) (by kernel_rfl) (by kernel_rfl) (fun _ _ _ h => h) (by assumption) (by rfl) ?_
                  try simp only [Act.put, List.setIfInBounds_toArray, List.set_cons_zero, List.set_cons_succ]
                  refine' wpAnyZ_skipA (i := 7) _ rfl (opAt rfl) (by kernel_rfl) (by kernel_rfl) (by kernel_rfl) (by kernel_rfl) (fun _ _ _ h => h) (by assumption) (by rfl) ?_
                  try simp only [Act.put, List.setIfInBounds_toArray, List.set_cons_zero, List.set_cons_succ]
                  refine' wpAnyZ_skipA (i := 8) _ rfl (opAt rfl) (by kernel_rfl) (by kernel_rfl) (by kernel_rfl) (by kernel_rfl) (fun _ _ _ h => h) (by assumption) (by rfl) ?_
                  try simp only [Act.put, List.setIfInBounds_toArray, List.set_cons_zero, List.set_cons_succ]
                  refine' wpAnyZ_skipA (i := 9) _ rfl (opAt rfl) (by kernel_rfl) (by kernel_rfl) (by kernel_rfl) (by kernel_rfl) (fun _ _ _ h => h) (by assumption) (by rfl) ?_
                  try simp only [Act.put, List.setIfInBounds_toArray, List.set_cons_zero, List.set_cons_succ]
                  refine' wpAnyZ_skipA (i := 10) _ rfl (opAt rfl) (by kernel_rfl) (by kernel_rfl) (by kernel_rfl) (by kernel_rfl) (fun _ _ _ h => h) (by assumption) (by rfl) ?_
                  try simp only [Act.put, List.setIfInBounds_toArray, List.set_cons_zero, List.set_cons_succ]
                  refine' wpAnyZ_skipA (i := 11) _ rfl (opAt rfl) (by kernel_rfl) (by kernel_rfl) (by kernel_rfl) (by kernel_rfl) (fun _ _ _ h => h) (by assumption) (by rfl) ?_
                  try simp only [Act.put, List.setIfInBounds_toArray, List.set_cons_zero, List.set_cons_succ]
                  refine' wpAnyZ_skipA (i := 12) _ rfl (opAt rfl) (by kernel_rfl) (by kernel_rfl) (by kernel_rfl) (by kernel_rfl) (fun _ _ _ h => h) (by assumption) (by rfl) ?_
                  try simp only [Act.put, List.setIfInBounds_toArray, List.set_cons_zero, List.set_cons_succ]
                  refine' wpAnyZ_takeA (i := 13) (v := ?_) (opAt rfl) (by kernel_rfl) (by kernel_rfl) (by kernel_rfl) (by kernel_rfl) (fun _ _ _ h => h) (by assumption) (by rfl) (fun w hSw => ?_) ?_
                  rotate_left
                  · (try dsimp only at hSw); go_simp; (try with_reducible rfl)
                  try simp only [Act.put, List.setIfInBounds_toArray, List.set_cons_zero, List.set_cons_succ]
                  refine wpAnyZ_done (by kernel_rfl) ?_ _
                  have mc := fun i => bc.cell i
                  go_wp2_with fail
                  go_roundw
                  case measure => simp [intOf]; omega
                  case rel => exact ⟨q + 1, true, by go_num, hq1.out, rfl, by rw [hcast.out]; simpa using HBN.out, R, ba, bc, orow, B0⟩
                | false =>
                  have HBN := hide (show (false = true ↔ freeU own p ((q : Int) + 1) was) from hbq.trans ⟨fun h => hS.2 ⟨h, fun h1 => absurd ho h1⟩, fun h => (hS.1 h).1⟩)
                  clear hbq hS hW
                  clear ho
                  have mc := fun i => bc.cell i
                  have zx := ZX.out _ orow
                  obtain ⟨zx1, zx2, zx3⟩ := zx
                  go_wp2_with fail
                  refine (RA.out _).mono ?_
                  rintro e wa ⟨rfl, hb1⟩
                  clear mc zx1 zx2 zx3
                  replace ba := ba.below hb1 ba.lt
                  replace bc := bc.below hb1 bc.lt
                  replace R := R.below hb1
                  replace orow := own_below orow hb1
                  replace B0 := B0.trans (hb1.mono B0.size)
                  clear hb1
                  have mc := fun i => bc.cell i
                  obtain ⟨zx1, zx2, zx3⟩ := ZX.out _ orow
                  have zy := ZY.out _ R
                  go_wp2_with fail
                  refine (RA.out _).mono ?_
                  rintro e wb ⟨rfl, hb1⟩
                  clear mc zx1 zx2 zx3 zy
                  replace ba := ba.below hb1 ba.lt
                  replace bc := bc.below hb1 bc.lt
                  replace R := R.below hb1
                  replace orow := own_below orow hb1
                  replace B0 := B0.trans (hb1.mono B0.size)
                  clear hb1
                  have mc := fun i => bc.cell i
                  obtain ⟨zx1, zx2, zx3⟩ := ZX.out _ orow
                  have zy := ZY.out _ R
                  go_wp2_with fail
                  clear mc zx1 zx2 zx3 zy
                  refine wp_region_heldZ [] (fun w' => w'.cell? ⟨aw.block, aw.off + 1, none⟩ = some (.int .u64 ev1) ∧ w'.cell? ⟨w.heap.size, 4, none⟩ = some (.int .i64 p)) (by kernel_rfl) (by exact ⟨(ZX.out _ orow).2.2, bc.cell 4⟩) (fun hHeld => ?_)
                  replace ba := ba.drew
                  replace bc := bc.drew
                  replace R := (show RefOk wb.drew g _ from R)
                  replace orow := (show wb.drew.ownsRow _ _ _ _ _ _ from orow)
                  replace B0 := B0.drew
                  generalize wb.drew = w0y at *
                  refine' wpAnyZ_takeA (i := 0) (v := ?_) (opAt rfl) (by kernel_rfl) (by kernel_rfl) (by kernel_rfl) (by kernel_rfl) (fun _ _ _ h => h) (by assumption) (by rfl) (fun w hSw => ?_) ?_
                  rotate_left
                  · (try dsimp only at hSw); go_simp; (try with_reducible rfl)
                  try simp only [Act.put, List.setIfInBounds_toArray, List.set_cons_zero, List.set_cons_succ]
                  refine' wpAnyZ_takeA (i := 1) (v := ?_) (opAt rfl) (by kernel_rfl) (by kernel_rfl) (by kernel_rfl) (by kernel_rfl) (fun _ _ _ h => h) (by assumption) (by rfl) (fun w hSw => ?_) ?_
                  rotate_left
                  · (try dsimp only at hSw); go_simp; (try with_reducible rfl)
                  try simp only [Act.put, List.setIfInBounds_toArray, List.set_cons_zero, List.set_cons_succ]
                  refine' wpAnyZ_skipA (i := 2) _ rfl (opAt rfl) (by kernel_rfl) (by kernel_rfl) (by kernel_rfl) (by kernel_rfl) (fun _ _ _ h => h) (by assumption) (by rfl) ?_
                  try simp only [Act.put, List.setIfInBounds_toArray, List.set_cons_zero, List.set_cons_succ]
                  refine' wpAnyZ_takeA (i := 3) (v := ?_) (opAt rfl) (by kernel_rfl) (by kernel_rfl) (by kernel_rfl) (by kernel_rfl) (fun _ _ _ h => h) (by assumption) (by rfl) (fun w hSw => ?_) ?_
                  rotate_left
                  · (try dsimp only at hSw); go_simp; (try with_reducible rfl)
                  try simp only [Act.put, List.setIfInBounds_toArray, List.set_cons_zero, List.set_cons_succ]
                  refine' wpAnyZ_takeA (i := 4) (v := ?_) (opAt rfl) (by kernel_rfl) (by kernel_rfl) (by kernel_rfl) (by kernel_rfl) (fun _ _ _ h => h) (by assumption) (by rfl) (fun w hSw => ?_) ?_
                  rotate_left
                  · (try dsimp only at hSw); go_simp; (try with_reducible rfl)
                  try simp only [Act.put, List.setIfInBounds_toArray, List.set_cons_zero, List.set_cons_succ]
                  refine' wpAnyZ_skipA (i := 5) _ rfl (opAt rfl) (by kernel_rfl) (by kernel_rfl) (by kernel_rfl) (by kernel_rfl) (fun _ _ _ h => h) (by assumption) (by rfl) ?_
                  try simp only [Act.put, List.setIfInBounds_toArray, List.set_cons_zero, List.set_cons_succ]
                  refine' wpAnyZ_skipA (i := 6) _ rfl (opAt rfl) (by kernel_rfl) (by kernel_rfl) (by kernel_rfl) (by kernel_rfl) (fun _ _ _ h => h) (by assumption) (by rfl) ?_
                  try simp only [Act.put, List.setIfInBounds_toArray, List.set_cons_zero, List.set_cons_succ]
                  refine' wpAnyZ_skipA (i := 7) _ rfl (opAt rfl) (by kernel_rfl) (by kernel_rfl) (by kernel_rfl) (by kernel_rfl) (fun _ _ _ h => h) (by assumption) (by rfl) ?_
                  try simp only [Act.put, List.setIfInBounds_toArray, List.set_cons_zero, List.set_cons_succ]
                  refine' wpAnyZ_skipA (i := 8) _ rfl (opAt rfl) (by kernel_rfl) (by kernel_rfl) (by kernel_rfl) (by kernel_rfl) (fun _ _ _ h => h) (by assumption) (by rfl) ?_
                  try simp only [Act.put, List.setIfInBounds_toArray, List.set_cons_zero, List.set_cons_succ]
                  refine' wpAnyZ_skipA (i := 9) _ rfl (opAt rfl) (by kernel_rfl) (by kernel_rfl) (by kernel_rfl) (by kernel_rfl) (fun _ _ _ h => h) (by assumption) (by rfl) ?_
                  try simp only [Act.put, List.setIfInBounds_toArray, List.set_cons_zero, List.set_cons_succ]
                  refine' wpAnyZ_skipA (i := 10) _ rfl (opAt rfl) (by kernel_rfl) (by kernel_rfl) (by kernel_rfl) (by kernel_rfl) (fun _ _ _ h => h) (by assumption) (by rfl) ?_
                  try simp only [Act.put, List.setIfInBounds_toArray, List.set_cons_zero, List.set_cons_succ]
                  refine' wpAnyZ_skipA (i := 11) _ rfl (opAt rfl) (by kernel_rfl) (by kernel_rfl) (by kernel_rfl) (by kernel_rfl) (fun _ _ _ h => h) (by assumption) (by rfl) ?_
                  try simp only [Act.put, List.setIfInBounds_toArray, List.set_cons_zero, List.set_cons_succ]
                  refine' wpAnyZ_skipA (i := 12) _ rfl (opAt rfl) (by kernel_rfl) (by kernel_rfl) (by kernel_rfl) (by kernel_rfl) (fun _ _ _ h => h) (by assumption) (by rfl) ?_
                  try simp only [Act.put, List.setIfInBounds_toArray, List.set_cons_zero, List.set_cons_succ]
                  refine' wpAnyZ_takeA (i := 13) (v := ?_) (opAt rfl) (by kernel_rfl) (by kernel_rfl) (by kernel_rfl) (by kernel_rfl) (fun _ _ _ h => h) (by assumption) (by rfl) (fun w hSw => ?_) ?_
                  rotate_left
                  · (try dsimp only at hSw); go_simp; (try with_reducible rfl)
                  try simp only [Act.put, List.setIfInBounds_toArray, List.set_cons_zero, List.set_cons_succ]
                  refine wpAnyZ_done (by kernel_rfl) ?_ _
                  have mc := fun i => bc.cell i
                  go_wp2_with fail
                  go_roundw
                  case measure => simp [intOf]; omega
                  case rel => exact ⟨q + 1, false, by go_num, hq1.out, rfl, by rw [hcast.out]; simpa using HBN.out, R, ba, bc, orow, B0⟩
              · have hoq : ((q : Int) != own) = true := by simpa using ho
                cases hab : ablocks xv ev0 with
                | false =>
                  have hy : yv = xv := hW.2 (fun h => by rw [hab] at h; exact absurd h.2.2 (by simp))
                  subst hy
                  rw [hab] at BL
                  cases b with
                  | true =>
                    have HBN := hide (show (true = true ↔ freeU own p ((q : Int) + 1) was) from hbq.trans ⟨fun h => hS.2 ⟨h, fun _ h1 => by rw [hab] at h1; cases h1⟩, fun h => (hS.1 h).1⟩)
                    clear hbq hS hW
                    clear hab ho
                    have mc := fun i => bc.cell i
                    have zx := ZX.out _ orow
                    obtain ⟨zx1, zx2, zx3⟩ := zx
                    go_wp2_with fail
                    refine (RA.out _).mono ?_
                    rintro e wa ⟨rfl, hb1⟩
                    clear mc zx1 zx2 zx3
                    replace ba := ba.below hb1 ba.lt
                    replace bc := bc.below hb1 bc.lt
                    replace R := R.below hb1
                    replace orow := own_below orow hb1
                    replace B0 := B0.trans (hb1.mono B0.size)
                    clear hb1
                    have mc := fun i => bc.cell i
                    obtain ⟨zx1, zx2, zx3⟩ := ZX.out _ orow
                    have zy := ZY.out _ R
                    go_wp2_with fail
                    refine (RA.out _).mono ?_
                    rintro e wb ⟨rfl, hb1⟩
                    clear mc zx1 zx2 zx3 zy
                    replace ba := ba.below hb1 ba.lt
                    replace bc := bc.below hb1 bc.lt
                    replace R := R.below hb1
                    replace orow := own_below orow hb1
                    replace B0 := B0.trans (hb1.mono B0.size)
                    clear hb1
                    have mc := fun i => bc.cell i
                    obtain ⟨zx1, zx2, zx3⟩ := ZX.out _ orow
                    have zy := ZY.out _ R
                    go_wp2_with fail
                    refine (BL.out _).mono ?_
                    rintro e w' ⟨rfl, rfl⟩
                    go_wp2_with fail
                    clear mc zx1 zx2 zx3 zy
                    refine wp_region_heldZ [] (fun w' => w'.cell? ⟨aw.block, aw.off + 1, none⟩ = some (.int .u64 ev1) ∧ w'.cell? ⟨w.heap.size, 4, none⟩ = some (.int .i64 p)) (by kernel_rfl) (by exact ⟨(ZX.out _ orow).2.2, bc.cell 4⟩) (fun hHeld => ?_)
                    replace ba := ba.drew
                    replace bc := bc.drew
                    replace R := (show RefOk wb.drew g _ from R)
                    replace orow := (show wb.drew.ownsRow _ _ _ _ _ _ from orow)
                    replace B0 := B0.drew
                    generalize wb.drew = w0y at *
                    refine' wpAnyZ_takeA (i := 0) (v := ?_) (opAt rfl) (by kernel_rfl) (by kernel_rfl) (by kernel_rfl) (by kernel_rfl) (fun _ _ _ h => h) (by assumption) (by rfl) (fun w hSw => ?_) ?_
                    rotate_left
                    · (try dsimp only at hSw); go_simp; (try with_reducible rfl)
                    try simp only [Act.put, List.setIfInBounds_toArray, List.set_cons_zero, List.set_cons_succ]
                    refine' wpAnyZ_takeA (i := 1) (v := ?_) (opAt rfl) (by kernel_rfl) (by kernel_rfl) (by kernel_rfl) (by kernel_rfl) (fun _ _ _ h => h) (by assumption) (by rfl) (fun w hSw => ?_) ?_
                    rotate_left
                    · (try dsimp only at hSw); go_simp; (try with_reducible rfl)
                    try simp only [Act.put, List.setIfInBounds_toArray, List.set_cons_zero, List.set_cons_succ]
                    refine' wpAnyZ_takeA (i := 2) (v := ?_) (opAt rfl) (by kernel_rfl) (by kernel_rfl) (by kernel_rfl) (by kernel_rfl) (fun _ _ _ h => h) (by assumption) (by rfl) (fun w hSw => ?_) ?_
                    rotate_left
                    · (try dsimp only at hSw); go_simp; (try with_reducible rfl)
                    try simp only [Act.put, List.setIfInBounds_toArray, List.set_cons_zero, List.set_cons_succ]
                    refine' wpAnyZ_takeA (i := 3) (v := ?_) (opAt rfl) (by kernel_rfl) (by kernel_rfl) (by kernel_rfl) (by kernel_rfl) (fun _ _ _ h => h) (by assumption) (by rfl) (fun w hSw => ?_) ?_
                    rotate_left
                    · (try dsimp only at hSw); go_simp; (try with_reducible rfl)
                    try simp only [Act.put, List.setIfInBounds_toArray, List.set_cons_zero, List.set_cons_succ]
                    refine' wpAnyZ_takeA (i := 4) (v := ?_) (opAt rfl) (by kernel_rfl) (by kernel_rfl) (by kernel_rfl) (by kernel_rfl) (fun _ _ _ h => h) (by assumption) (by rfl) (fun w hSw => ?_) ?_
                    rotate_left
                    · (try dsimp only at hSw); go_simp; (try with_reducible rfl)
                    try simp only [Act.put, List.setIfInBounds_toArray, List.set_cons_zero, List.set_cons_succ]
                    refine' wpAnyZ_skipA (i := 5) _ rfl (opAt rfl) (by kernel_rfl) (by kernel_rfl) (by kernel_rfl) (by kernel_rfl) (fun _ _ _ h => h) (by assumption) (by rfl) ?_
                    try simp only [Act.put, List.setIfInBounds_toArray, List.set_cons_zero, List.set_cons_succ]
                    refine' wpAnyZ_skipA (i := 6) _ rfl (opAt rfl) (by kernel_rfl) (by kernel_rfl) (by kernel_rfl) (by kernel_rfl) (fun _ _ _ h => h) (by assumption) (by rfl) ?_
                    try simp only [Act.put, List.setIfInBounds_toArray, List.set_cons_zero, List.set_cons_succ]
                    refine' wpAnyZ_skipA (i := 7) _ rfl (opAt rfl) (by kernel_rfl) (by kernel_rfl) (by kernel_rfl) (by kernel_rfl) (fun _ _ _ h => h) (by assumption) (by rfl) ?_
                    try simp only [Act.put, List.setIfInBounds_toArray, List.set_cons_zero, List.set_cons_succ]
                    refine' wpAnyZ_skipA (i := 8) _ rfl (opAt rfl) (by kernel_rfl) (by kernel_rfl) (by kernel_rfl) (by kernel_rfl) (fun _ _ _ h => h) (by assumption) (by rfl) ?_
                    try simp only [Act.put, List.setIfInBounds_toArray, List.set_cons_zero, List.set_cons_succ]
                    refine' wpAnyZ_skipA (i := 9) _ rfl (opAt rfl) (by kernel_rfl) (by kernel_rfl) (by kernel_rfl) (by kernel_rfl) (fun _ _ _ h => h) (by assumption) (by rfl) ?_
                    try simp only [Act.put, List.setIfInBounds_toArray, List.set_cons_zero, List.set_cons_succ]
                    refine' wpAnyZ_skipA (i := 10) _ rfl (opAt rfl) (by kernel_rfl) (by kernel_rfl) (by kernel_rfl) (by kernel_rfl) (fun _ _ _ h => h) (by assumption) (by rfl) ?_
                    try simp only [Act.put, List.setIfInBounds_toArray, List.set_cons_zero, List.set_cons_succ]
                    refine' wpAnyZ_skipA (i := 11) _ rfl (opAt rfl) (by kernel_rfl) (by kernel_rfl) (by kernel_rfl) (by kernel_rfl) (fun _ _ _ h => h) (by assumption) (by rfl) ?_
                    try simp only [Act.put, List.setIfInBounds_toArray, List.set_cons_zero, List.set_cons_succ]
                    refine' wpAnyZ_skipA (i := 12) _ rfl (opAt rfl) (by kernel_rfl) (by kernel_rfl) (by kernel_rfl) (by kernel_rfl) (fun _ _ _ h => h) (by assumption) (by rfl) ?_
                    try simp only [Act.put, List.setIfInBounds_toArray, List.set_cons_zero, List.set_cons_succ]
                    refine' wpAnyZ_takeA (i := 13) (v := ?_) (opAt rfl) (by kernel_rfl) (by kernel_rfl) (by kernel_rfl) (by kernel_rfl) (fun _ _ _ h => h) (by assumption) (by rfl) (fun w hSw => ?_) ?_
                    rotate_left
                    · (try dsimp only at hSw); go_simp; (try with_reducible rfl)
                    try simp only [Act.put, List.setIfInBounds_toArray, List.set_cons_zero, List.set_cons_succ]
                    refine wpAnyZ_done (by kernel_rfl) ?_ _
                    have mc := fun i => bc.cell i
                    go_wp2_with fail
                    go_roundw
                    case measure => simp [intOf]; omega
                    case rel => exact ⟨q + 1, true, by go_num, hq1.out, rfl, by rw [hcast.out]; simpa using HBN.out, R, ba, bc, orow, B0⟩
                  | false =>
                    have HBN := hide (show (false = true ↔ freeU own p ((q : Int) + 1) was) from hbq.trans ⟨fun h => hS.2 ⟨h, fun _ h1 => by rw [hab] at h1; cases h1⟩, fun h => (hS.1 h).1⟩)
                    clear hbq hS hW
                    clear hab ho
                    have mc := fun i => bc.cell i
                    have zx := ZX.out _ orow
                    obtain ⟨zx1, zx2, zx3⟩ := zx
                    go_wp2_with fail
                    refine (RA.out _).mono ?_
                    rintro e wa ⟨rfl, hb1⟩
                    clear mc zx1 zx2 zx3
                    replace ba := ba.below hb1 ba.lt
                    replace bc := bc.below hb1 bc.lt
                    replace R := R.below hb1
                    replace orow := own_below orow hb1
                    replace B0 := B0.trans (hb1.mono B0.size)
                    clear hb1
                    have mc := fun i => bc.cell i
                    obtain ⟨zx1, zx2, zx3⟩ := ZX.out _ orow
                    have zy := ZY.out _ R
                    go_wp2_with fail
                    refine (RA.out _).mono ?_
                    rintro e wb ⟨rfl, hb1⟩
                    clear mc zx1 zx2 zx3 zy
                    replace ba := ba.below hb1 ba.lt
                    replace bc := bc.below hb1 bc.lt
                    replace R := R.below hb1
                    replace orow := own_below orow hb1
                    replace B0 := B0.trans (hb1.mono B0.size)
                    clear hb1
                    have mc := fun i => bc.cell i
                    obtain ⟨zx1, zx2, zx3⟩ := ZX.out _ orow
                    have zy := ZY.out _ R
                    go_wp2_with fail
                    refine (BL.out _).mono ?_
                    rintro e w' ⟨rfl, rfl⟩
                    go_wp2_with fail
                    clear mc zx1 zx2 zx3 zy
                    refine wp_region_heldZ [] (fun w' => w'.cell? ⟨aw.block, aw.off + 1, none⟩ = some (.int .u64 ev1) ∧ w'.cell? ⟨w.heap.size, 4, none⟩ = some (.int .i64 p)) (by kernel_rfl) (by exact ⟨(ZX.out _ orow).2.2, bc.cell 4⟩) (fun hHeld => ?_)
                    replace ba := ba.drew
                    replace bc := bc.drew
                    replace R := (show RefOk wb.drew g _ from R)
                    replace orow := (show wb.drew.ownsRow _ _ _ _ _ _ from orow)
                    replace B0 := B0.drew
                    generalize wb.drew = w0y at *
                    refine' wpAnyZ_takeA (i := 0) (v := ?_) (opAt rfl) (by kernel_rfl) (by kernel_rfl) (by kernel_rfl) (by kernel_rfl) (fun _ _ _ h => h) (by assumption) (by rfl) (fun w hSw => ?_) ?_
                    rotate_left
                    · (try dsimp only at hSw); go_simp; (try with_reducible rfl)
                    try simp only [Act.put, List.setIfInBounds_toArray, List.set_cons_zero, List.set_cons_succ]
                    refine' wpAnyZ_takeA (i := 1) (v := ?_) (opAt rfl) (by kernel_rfl) (by kernel_rfl) (by kernel_rfl) (by kernel_rfl) (fun _ _ _ h => h) (by assumption) (by rfl) (fun w hSw => ?_) ?_
                    rotate_left
                    · (try dsimp only at hSw); go_simp; (try with_reducible rfl)
                    try simp only [Act.put, List.setIfInBounds_toArray, List.set_cons_zero, List.set_cons_succ]
                    refine' wpAnyZ_skipA (i := 2) _ rfl (opAt rfl) (by kernel_rfl) (by kernel_rfl) (by kernel_rfl) (by kernel_rfl) (fun _ _ _ h => h) (by assumption) (by rfl) ?_
                    try simp only [Act.put, List.setIfInBounds_toArray, List.set_cons_zero, List.set_cons_succ]
                    refine' wpAnyZ_takeA (i := 3) (v := ?_) (opAt rfl) (by kernel_rfl) (by kernel_rfl) (by kernel_rfl) (by kernel_rfl) (fun _ _ _ h => h) (by assumption) (by rfl) (fun w hSw => ?_) ?_
                    rotate_left
                    · (try dsimp only at hSw); go_simp; (try with_reducible rfl)
                    try simp only [Act.put, List.setIfInBounds_toArray, List.set_cons_zero, List.set_cons_succ]
                    refine' wpAnyZ_takeA (i := 4) (v := ?_) (opAt rfl) (by kernel_rfl) (by kernel_rfl) (by kernel_rfl) (by kernel_rfl) (fun _ _ _ h => h) (by assumption) (by rfl) (fun w hSw => ?_) ?_
                    rotate_left
                    · (try dsimp only at hSw); go_simp; (try with_reducible rfl)
                    try simp only [Act.put, List.setIfInBounds_toArray, List.set_cons_zero, List.set_cons_succ]
                    refine' wpAnyZ_skipA (i := 5) _ rfl (opAt rfl) (by kernel_rfl) (by kernel_rfl) (by kernel_rfl) (by kernel_rfl) (fun _ _ _ h => h) (by assumption) (by rfl) ?_
                    try simp only [Act.put, List.setIfInBounds_toArray, List.set_cons_zero, List.set_cons_succ]
                    refine' wpAnyZ_skipA (i := 6) _ rfl (opAt rfl) (by kernel_rfl) (by kernel_rfl) (by kernel_rfl) (by kernel_rfl) (fun _ _ _ h => h) (by assumption) (by rfl) ?_
                    try simp only [Act.put, List.setIfInBounds_toArray, List.set_cons_zero, List.set_cons_succ]
                    refine' wpAnyZ_skipA (i := 7) _ rfl (opAt rfl) (by kernel_rfl) (by kernel_rfl) (by kernel_rfl) (by kernel_rfl) (fun _ _ _ h => h) (by assumption) (by rfl) ?_
                    try simp only [Act.put, List.setIfInBounds_toArray, List.set_cons_zero, List.set_cons_succ]
                    refine' wpAnyZ_skipA (i := 8) _ rfl (opAt rfl) (by kernel_rfl) (by kernel_rfl) (by kernel_rfl) (by kernel_rfl) (fun _ _ _ h => h) (by assumption) (by rfl) ?_
                    try simp only [Act.put, List.setIfInBounds_toArray, List.set_cons_zero, List.set_cons_succ]
                    refine' wpAnyZ_skipA (i := 9) _ rfl (opAt rfl) (by kernel_rfl) (by kernel_rfl) (by kernel_rfl) (by kernel_rfl) (fun _ _ _ h => h) (by assumption) (by rfl) ?_
                    try simp only [Act.put, List.setIfInBounds_toArray, List.set_cons_zero, List.set_cons_succ]
                    refine' wpAnyZ_skipA (i := 10) _ rfl (opAt rfl) (by kernel_rfl) (by kernel_rfl) (by kernel_rfl) (by kernel_rfl) (fun _ _ _ h => h) (by assumption) (by rfl) ?_
                    try simp only [Act.put, List.setIfInBounds_toArray, List.set_cons_zero, List.set_cons_succ]
                    refine' wpAnyZ_skipA (i := 11) _ rfl (opAt rfl) (by kernel_rfl) (by kernel_rfl) (by kernel_rfl) (by kernel_rfl) (fun _ _ _ h => h) (by assumption) (by rfl) ?_
                    try simp only [Act.put, List.setIfInBounds_toArray, List.set_cons_zero, List.set_cons_succ]
                    refine' wpAnyZ_skipA (i := 12) _ rfl (opAt rfl) (by kernel_rfl) (by kernel_rfl) (by kernel_rfl) (by kernel_rfl) (fun _ _ _ h => h) (by assumption) (by rfl) ?_
                    try simp only [Act.put, List.setIfInBounds_toArray, List.set_cons_zero, List.set_cons_succ]
                    refine' wpAnyZ_takeA (i := 13) (v := ?_) (opAt rfl) (by kernel_rfl) (by kernel_rfl) (by kernel_rfl) (by kernel_rfl) (fun _ _ _ h => h) (by assumption) (by rfl) (fun w hSw => ?_) ?_
                    rotate_left
                    · (try dsimp only at hSw); go_simp; (try with_reducible rfl)
                    try simp only [Act.put, List.setIfInBounds_toArray, List.set_cons_zero, List.set_cons_succ]
                    refine wpAnyZ_done (by kernel_rfl) ?_ _
                    have mc := fun i => bc.cell i
                    go_wp2_with fail
                    go_roundw
                    case measure => simp [intOf]; omega
                    case rel => exact ⟨q + 1, false, by go_num, hq1.out, rfl, by rw [hcast.out]; simpa using HBN.out, R, ba, bc, orow, B0⟩
                | true =>
                  rw [hab] at BL
                  cases b with
                  | false =>
                    have hnf : ¬ freeU own p ((q : Int) + 1) was := fun h => by have := hbq.2 (hS.1 h).1; cases this
                    have hy : yv = xv := hW.2 (fun h => hnf h.1)
                    subst hy
                    have HBN := hide (show (false = true ↔ freeU own p ((q : Int) + 1) was) from ⟨fun h => (by cases h), fun h => absurd h hnf⟩)
                    clear hbq hS hW
                    clear hab ho hnf
                    have mc := fun i => bc.cell i
                    have zx := ZX.out _ orow
                    obtain ⟨zx1, zx2, zx3⟩ := zx
                    go_wp2_with fail
                    refine (RA.out _).mono ?_
                    rintro e wa ⟨rfl, hb1⟩
                    clear mc zx1 zx2 zx3
                    replace ba := ba.below hb1 ba.lt
                    replace bc := bc.below hb1 bc.lt
                    replace R := R.below hb1
                    replace orow := own_below orow hb1
                    replace B0 := B0.trans (hb1.mono B0.size)
                    clear hb1
                    have mc := fun i => bc.cell i
                    obtain ⟨zx1, zx2, zx3⟩ := ZX.out _ orow
                    have zy := ZY.out _ R
                    go_wp2_with fail
                    refine (RA.out _).mono ?_
                    rintro e wb ⟨rfl, hb1⟩
                    clear mc zx1 zx2 zx3 zy
                    replace ba := ba.below hb1 ba.lt
                    replace bc := bc.below hb1 bc.lt
                    replace R := R.below hb1
                    replace orow := own_below orow hb1
                    replace B0 := B0.trans (hb1.mono B0.size)
                    clear hb1
                    have mc := fun i => bc.cell i
                    obtain ⟨zx1, zx2, zx3⟩ := ZX.out _ orow
                    have zy := ZY.out _ R
                    go_wp2_with fail
                    refine (BL.out _).mono ?_
                    rintro e w' ⟨rfl, rfl⟩
                    go_wp2_with fail
                    clear mc zx1 zx2 zx3 zy
                    refine wp_region_heldZ [] (fun w' => w'.cell? ⟨aw.block, aw.off + 1, none⟩ = some (.int .u64 ev1) ∧ w'.cell? ⟨w.heap.size, 4, none⟩ = some (.int .i64 p)) (by kernel_rfl) (by exact ⟨(ZX.out _ orow).2.2, bc.cell 4⟩) (fun hHeld => ?_)
                    replace ba := ba.drew
                    replace bc := bc.drew
                    replace R := (show RefOk wb.drew g _ from R)
                    replace orow := (show wb.drew.ownsRow _ _ _ _ _ _ from orow)
                    replace B0 := B0.drew
                    generalize wb.drew = w0y at *
                    refine' wpAnyZ_takeA (i := 0) (v := ?_) (opAt rfl) (by kernel_rfl) (by kernel_rfl) (by kernel_rfl) (by kernel_rfl) (fun _ _ _ h => h) (by assumption) (by rfl) (fun w hSw => ?_) ?_
                    rotate_left
                    · (try dsimp only at hSw); go_simp; (try with_reducible rfl)
                    try simp only [Act.put, List.setIfInBounds_toArray, List.set_cons_zero, List.set_cons_succ]
                    refine' wpAnyZ_takeA (i := 1) (v := ?_) (opAt rfl) (by kernel_rfl) (by kernel_rfl) (by kernel_rfl) (by kernel_rfl) (fun _ _ _ h => h) (by assumption) (by rfl) (fun w hSw => ?_) ?_
                    rotate_left
                    · (try dsimp only at hSw); go_simp; (try with_reducible rfl)
                    try simp only [Act.put, List.setIfInBounds_toArray, List.set_cons_zero, List.set_cons_succ]
                    refine' wpAnyZ_skipA (i := 2) _ rfl (opAt rfl) (by kernel_rfl) (by kernel_rfl) (by kernel_rfl) (by kernel_rfl) (fun _ _ _ h => h) (by assumption) (by rfl) ?_
                    try simp only [Act.put, List.setIfInBounds_toArray, List.set_cons_zero, List.set_cons_succ]
                    refine' wpAnyZ_takeA (i := 3) (v := ?_) (opAt rfl) (by kernel_rfl) (by kernel_rfl) (by kernel_rfl) (by kernel_rfl) (fun _ _ _ h => h) (by assumption) (by rfl) (fun w hSw => ?_) ?_
                    rotate_left
                    · (try dsimp only at hSw); go_simp; (try with_reducible rfl)
                    try simp only [Act.put, List.setIfInBounds_toArray, List.set_cons_zero, List.set_cons_succ]
                    refine' wpAnyZ_takeA (i := 4) (v := ?_) (opAt rfl) (by kernel_rfl) (by kernel_rfl) (by kernel_rfl) (by kernel_rfl) (fun _ _ _ h => h) (by assumption) (by rfl) (fun w hSw => ?_) ?_
                    rotate_left
                    · (try dsimp only at hSw); go_simp; (try with_reducible rfl)
                    try simp only [Act.put, List.setIfInBounds_toArray, List.set_cons_zero, List.set_cons_succ]
                    refine' wpAnyZ_skipA (i := 5) _ rfl (opAt rfl) (by kernel_rfl) (by kernel_rfl) (by kernel_rfl) (by kernel_rfl) (fun _ _ _ h => h) (by assumption) (by rfl) ?_
                    try simp only [Act.put, List.setIfInBounds_toArray, List.set_cons_zero, List.set_cons_succ]
                    refine' wpAnyZ_skipA (i := 6) _ rfl (opAt rfl) (by kernel_rfl) (by kernel_rfl) (by kernel_rfl) (by kernel_rfl) (fun _ _ _ h => h) (by assumption) (by rfl) ?_
                    try simp only [Act.put, List.setIfInBounds_toArray, List.set_cons_zero, List.set_cons_succ]
                    refine' wpAnyZ_skipA (i := 7) _ rfl (opAt rfl) (by kernel_rfl) (by kernel_rfl) (by kernel_rfl) (by kernel_rfl) (fun _ _ _ h => h) (by assumption) (by rfl) ?_
                    try simp only [Act.put, List.setIfInBounds_toArray, List.set_cons_zero, List.set_cons_succ]
                    refine' wpAnyZ_skipA (i := 8) _ rfl (opAt rfl) (by kernel_rfl) (by kernel_rfl) (by kernel_rfl) (by kernel_rfl) (fun _ _ _ h => h) (by assumption) (by rfl) ?_
                    try simp only [Act.put, List.setIfInBounds_toArray, List.set_cons_zero, List.set_cons_succ]
                    refine' wpAnyZ_skipA (i := 9) _ rfl (opAt rfl) (by kernel_rfl) (by kernel_rfl) (by kernel_rfl) (by kernel_rfl) (fun _ _ _ h => h) (by assumption) (by rfl) ?_
                    try simp only [Act.put, List.setIfInBounds_toArray, List.set_cons_zero, List.set_cons_succ]
                    refine' wpAnyZ_skipA (i := 10) _ rfl (opAt rfl) (by kernel_rfl) (by kernel_rfl) (by kernel_rfl) (by kernel_rfl) (fun _ _ _ h => h) (by assumption) (by rfl) ?_
                    try simp only [Act.put, List.setIfInBounds_toArray, List.set_cons_zero, List.set_cons_succ]
                    refine' wpAnyZ_skipA (i := 11) _ rfl (opAt rfl) (by kernel_rfl) (by kernel_rfl) (by kernel_rfl) (by kernel_rfl) (fun _ _ _ h => h) (by assumption) (by rfl) ?_
                    try simp only [Act.put, List.setIfInBounds_toArray, List.set_cons_zero, List.set_cons_succ]
                    refine' wpAnyZ_skipA (i := 12) _ rfl (opAt rfl) (by kernel_rfl) (by kernel_rfl) (by kernel_rfl) (by kernel_rfl) (fun _ _ _ h => h) (by assumption) (by rfl) ?_
                    try simp only [Act.put, List.setIfInBounds_toArray, List.set_cons_zero, List.set_cons_succ]
                    refine' wpAnyZ_takeA (i := 13) (v := ?_) (opAt rfl) (by kernel_rfl) (by kernel_rfl) (by kernel_rfl) (by kernel_rfl) (fun _ _ _ h => h) (by assumption) (by rfl) (fun w hSw => ?_) ?_
                    rotate_left
                    · (try dsimp only at hSw); go_simp; (try with_reducible rfl)
                    try simp only [Act.put, List.setIfInBounds_toArray, List.set_cons_zero, List.set_cons_succ]
                    refine wpAnyZ_done (by kernel_rfl) ?_ _
                    have mc := fun i => bc.cell i
                    go_wp2_with fail
                    go_roundw
                    case measure => simp [intOf]; omega
                    case rel => exact ⟨q + 1, false, by go_num, hq1.out, rfl, by rw [hcast.out]; simpa using HBN.out, R, ba, bc, orow, B0⟩
                  | true =>
                    cases hst : astall xv ev1 p with
                    | true =>
                      have hfr : freeU own p ((q : Int) + 1) was := hS.2 ⟨hbq.1 rfl, fun _ _ => hst⟩
                      have hy : yv = evi xv := hW.1 hfr ho hab
                      subst hy
                      have HBN := hide (show (true = true ↔ freeU own p ((q : Int) + 1) was) from ⟨fun _ => hfr, fun _ => rfl⟩)
                      rw [hst] at SL
                      unfold evi at *
                      clear hbq hS hW
                      clear hab ho hfr hst
                      have mc := fun i => bc.cell i
                      have zx := ZX.out _ orow
                      obtain ⟨zx1, zx2, zx3⟩ := zx
                      go_wp2_with fail
                      refine (RA.out _).mono ?_
                      rintro e wa ⟨rfl, hb1⟩
                      clear mc zx1 zx2 zx3
                      replace ba := ba.below hb1 ba.lt
                      replace bc := bc.below hb1 bc.lt
                      replace R := R.below hb1
                      replace orow := own_below orow hb1
                      replace B0 := B0.trans (hb1.mono B0.size)
                      clear hb1
                      have mc := fun i => bc.cell i
                      obtain ⟨zx1, zx2, zx3⟩ := ZX.out _ orow
                      have zy := ZY.out _ R
                      go_wp2_with fail
                      refine (RA.out _).mono ?_
                      rintro e wb ⟨rfl, hb1⟩
                      clear mc zx1 zx2 zx3 zy
                      replace ba := ba.below hb1 ba.lt
                      replace bc := bc.below hb1 bc.lt
                      replace R := R.below hb1
                      replace orow := own_below orow hb1
                      replace B0 := B0.trans (hb1.mono B0.size)
                      clear hb1
                      have mc := fun i => bc.cell i
                      obtain ⟨zx1, zx2, zx3⟩ := ZX.out _ orow
                      have zy := ZY.out _ R
                      go_wp2_with fail
                      refine (BL.out _).mono ?_
                      rintro e w' ⟨rfl, rfl⟩
                      go_wp2_with fail
                      clear mc zx1 zx2 zx3 zy
                      refine wp_region_heldZ [] (fun w' => w'.cell? ⟨aw.block, aw.off + 1, none⟩ = some (.int .u64 ev1) ∧ w'.cell? ⟨w.heap.size, 4, none⟩ = some (.int .i64 p)) (by kernel_rfl) (by exact ⟨(ZX.out _ orow).2.2, bc.cell 4⟩) (fun hHeld => ?_)
                      replace ba := ba.drew
                      replace bc := bc.drew
                      replace R := (show RefOk wb.drew g _ from R)
                      replace orow := (show wb.drew.ownsRow _ _ _ _ _ _ from orow)
                      replace B0 := B0.drew
                      generalize wb.drew = w0y at *
                      refine' wpAnyZ_takeA (i := 0) (v := ?_) (opAt rfl) (by kernel_rfl) (by kernel_rfl) (by kernel_rfl) (by kernel_rfl) (fun _ _ _ h => h) (by assumption) (by rfl) (fun w hSw => ?_) ?_
                      rotate_left
                      · (try dsimp only at hSw); go_simp; (try with_reducible rfl)
                      try simp only [Act.put, List.setIfInBounds_toArray, List.set_cons_zero, List.set_cons_succ]
                      refine' wpAnyZ_takeA (i := 1) (v := ?_) (opAt rfl) (by kernel_rfl) (by kernel_rfl) (by kernel_rfl) (by kernel_rfl) (fun _ _ _ h => h) (by assumption) (by rfl) (fun w hSw => ?_) ?_
                      rotate_left
                      · (try dsimp only at hSw); go_simp; (try with_reducible rfl)
                      try simp only [Act.put, List.setIfInBounds_toArray, List.set_cons_zero, List.set_cons_succ]
                      refine' wpAnyZ_takeA (i := 2) (v := ?_) (opAt rfl) (by kernel_rfl) (by kernel_rfl) (by kernel_rfl) (by kernel_rfl) (fun _ _ _ h => h) (by assumption) (by rfl) (fun w hSw => ?_) ?_
                      rotate_left
                      · (try dsimp only at hSw); go_simp; (try with_reducible rfl)
                      try simp only [Act.put, List.setIfInBounds_toArray, List.set_cons_zero, List.set_cons_succ]
                      refine' wpAnyZ_takeA (i := 3) (v := ?_) (opAt rfl) (by kernel_rfl) (by kernel_rfl) (by kernel_rfl) (by kernel_rfl) (fun _ _ _ h => h) (by assumption) (by rfl) (fun w hSw => ?_) ?_
                      rotate_left
                      · (try dsimp only at hSw); go_simp; (try with_reducible rfl)
                      try simp only [Act.put, List.setIfInBounds_toArray, List.set_cons_zero, List.set_cons_succ]
                      refine' wpAnyZ_takeA (i := 4) (v := ?_) (opAt rfl) (by kernel_rfl) (by kernel_rfl) (by kernel_rfl) (by kernel_rfl) (fun _ _ _ h => h) (by assumption) (by rfl) (fun w hSw => ?_) ?_
                      rotate_left
                      · (try dsimp only at hSw); go_simp; (try with_reducible rfl)
                      try simp only [Act.put, List.setIfInBounds_toArray, List.set_cons_zero, List.set_cons_succ]
                      refine' wpAnyZ_takeA (i := 5) (v := ?_) (opAt rfl) (by kernel_rfl) (by kernel_rfl) (by kernel_rfl) (by kernel_rfl) (fun _ _ _ h => h) (by assumption) (by rfl) (fun w hSw => ?_) ?_
                      rotate_left
                      · (try dsimp only at hSw); go_simp; (try with_reducible rfl)
                      try simp only [Act.put, List.setIfInBounds_toArray, List.set_cons_zero, List.set_cons_succ]
                      refine' wpAnyZ_takeA (i := 6) (v := ?_) (opAt rfl) (by kernel_rfl) (by kernel_rfl) (by kernel_rfl) (by kernel_rfl) (fun _ _ _ h => h) (by assumption) (by rfl) (fun w hSw => ?_) ?_
                      rotate_left
                      · (try dsimp only at hSw); go_simp; (try with_reducible rfl)
                      try simp only [Act.put, List.setIfInBounds_toArray, List.set_cons_zero, List.set_cons_succ]
                      refine' wpAnyZ_takeA (i := 7) (v := ?_) (opAt rfl) (by kernel_rfl) (by kernel_rfl) (by kernel_rfl) (by kernel_rfl) (fun _ _ _ h => h) (by assumption) (by rfl) (fun w hSw => ?_) ?_
                      rotate_left
                      · (try dsimp only at hSw); go_simp; (try with_reducible rfl)
                      try simp only [Act.put, List.setIfInBounds_toArray, List.set_cons_zero, List.set_cons_succ]
                      refine' wpAnyZ_takeA (i := 8) (v := ?_) (opAt rfl) (by kernel_rfl) (by kernel_rfl) (by kernel_rfl) (by kernel_rfl) (fun _ _ _ h => h) (by assumption) (by rfl) (fun w hSw => ?_) ?_
                      rotate_left
                      · (try dsimp only at hSw); go_simp; (try with_reducible rfl)
                      try simp only [Act.put, List.setIfInBounds_toArray, List.set_cons_zero, List.set_cons_succ]
                      refine' wpAnyZ_takeA (i := 9) (v := ?_) (opAt rfl) (by kernel_rfl) (by kernel_rfl) (by kernel_rfl) (by kernel_rfl) (fun _ _ _ h => h) (by assumption) (by rfl) (fun w hSw => ?_) ?_
                      rotate_left
                      · (try dsimp only at hSw); go_simp; (try with_reducible rfl)
                      try simp only [Act.put, List.setIfInBounds_toArray, List.set_cons_zero, List.set_cons_succ]
                      refine' wpAnyZ_takeA (i := 10) (v := ?_) (opAt rfl) (by kernel_rfl) (by kernel_rfl) (by kernel_rfl) (by kernel_rfl) (fun _ _ _ h => h) (by assumption) (by rfl) (fun w hSw => ?_) ?_
                      rotate_left
                      · (try dsimp only at hSw); go_simp; (try with_reducible rfl)
                      try simp only [Act.put, List.setIfInBounds_toArray, List.set_cons_zero, List.set_cons_succ]
                      refine wpAnyZ_ready (rs := [11]) (by kernel_rfl) (by simp) ?_
                      refine AllReadyZ.cons (opAt rfl) (fun K hK => ?_) ?_
                      · skip
                        go_simp
                        refine (SL.out _).mono ?_
                        rintro e ws1 ⟨rfl, rfl⟩
                        try go_wp2_with fail
                        refine hK.out _ _ (by exact ⟨(ZX.out _ orow).2.2, bc.cell 4⟩) (fun hHeld => ?_)
                        clear hK K
                        try simp only [Act.put, List.setIfInBounds_toArray, List.set_cons_zero, List.set_cons_succ]
                        refine' wpAnyZ_takeA (i := 12) (v := ?_) (opAt rfl) (by kernel_rfl) (by kernel_rfl) (by kernel_rfl) (by kernel_rfl) (fun _ _ _ h => h) (by assumption) (by rfl) (fun w hSw => ?_) ?_
                        rotate_left
                        · (try dsimp only at hSw); go_simp; (try with_reducible rfl)
                        try simp only [Act.put, List.setIfInBounds_toArray, List.set_cons_zero, List.set_cons_succ]
                        refine' wpAnyZ_takeA (i := 13) (v := ?_) (opAt rfl) (by kernel_rfl) (by kernel_rfl) (by kernel_rfl) (by kernel_rfl) (fun _ _ _ h => h) (by assumption) (by rfl) (fun w hSw => ?_) ?_
                        rotate_left
                        · (try dsimp only at hSw); go_simp; (try with_reducible rfl)
                        try simp only [Act.put, List.setIfInBounds_toArray, List.set_cons_zero, List.set_cons_succ]
                        refine wpAnyZ_done (by kernel_rfl) ?_ _
                        have mc := fun i => bc.cell i
                        go_wp2_with fail
                        refine (EV.out _).mono ?_
                        rintro e w' ⟨rfl, rfl⟩
                        go_wp2_with fail
                        go_roundw
                        case measure => simp [intOf]; omega
                        case rel => exact ⟨q + 1, true, by go_num, hq1.out, rfl, by rw [hcast.out]; simpa using HBN.out, R, ba, bc, orow, B0⟩
                      exact AllReadyZ.nil
                    | false =>
                      have hnf : ¬ freeU own p ((q : Int) + 1) was := fun h => by have := (hS.1 h).2 ho hab; rw [hst] at this; cases this
                      have hy : yv = xv := hW.2 (fun h => hnf h.1)
                      subst hy
                      have HBN := hide (show (false = true ↔ freeU own p ((q : Int) + 1) was) from ⟨fun h => (by cases h), fun h => absurd h hnf⟩)
                      rw [hst] at SL
                      clear hbq hS hW
                      clear hab ho hnf hst
                      have mc := fun i => bc.cell i
                      have zx := ZX.out _ orow
                      obtain ⟨zx1, zx2, zx3⟩ := zx
                      go_wp2_with fail
                      refine (RA.out _).mono ?_
                      rintro e wa ⟨rfl, hb1⟩
                      clear mc zx1 zx2 zx3
                      replace ba := ba.below hb1 ba.lt
                      replace bc := bc.below hb1 bc.lt
                      replace R := R.below hb1
                      replace orow := own_below orow hb1
                      replace B0 := B0.trans (hb1.mono B0.size)
                      clear hb1
                      have mc := fun i => bc.cell i
                      obtain ⟨zx1, zx2, zx3⟩ := ZX.out _ orow
                      have zy := ZY.out _ R
                      go_wp2_with fail
                      refine (RA.out _).mono ?_
                      rintro e wb ⟨rfl, hb1⟩
                      clear mc zx1 zx2 zx3 zy
                      replace ba := ba.below hb1 ba.lt
                      replace bc := bc.below hb1 bc.lt
                      replace R := R.below hb1
                      replace orow := own_below orow hb1
                      replace B0 := B0.trans (hb1.mono B0.size)
                      clear hb1
                      have mc := fun i => bc.cell i
                      obtain ⟨zx1, zx2, zx3⟩ := ZX.out _ orow
                      have zy := ZY.out _ R
                      go_wp2_with fail
                      refine (BL.out _).mono ?_
                      rintro e w' ⟨rfl, rfl⟩
                      go_wp2_with fail
                      clear mc zx1 zx2 zx3 zy
                      refine wp_region_heldZ [] (fun w' => w'.cell? ⟨aw.block, aw.off + 1, none⟩ = some (.int .u64 ev1) ∧ w'.cell? ⟨w.heap.size, 4, none⟩ = some (.int .i64 p)) (by kernel_rfl) (by exact ⟨(ZX.out _ orow).2.2, bc.cell 4⟩) (fun hHeld => ?_)
                      replace ba := ba.drew
                      replace bc := bc.drew
                      replace R := (show RefOk wb.drew g _ from R)
                      replace orow := (show wb.drew.ownsRow _ _ _ _ _ _ from orow)
                      replace B0 := B0.drew
                      generalize wb.drew = w0y at *
                      refine' wpAnyZ_takeA (i := 0) (v := ?_) (opAt rfl) (by kernel_rfl) (by kernel_rfl) (by kernel_rfl) (by kernel_rfl) (fun _ _ _ h => h) (by assumption) (by rfl) (fun w hSw => ?_) ?_
                      rotate_left
                      · (try dsimp only at hSw); go_simp; (try with_reducible rfl)
                      try simp only [Act.put, List.setIfInBounds_toArray, List.set_cons_zero, List.set_cons_succ]
                      refine' wpAnyZ_takeA (i := 1) (v := ?_) (opAt rfl) (by kernel_rfl) (by kernel_rfl) (by kernel_rfl) (by kernel_rfl) (fun _ _ _ h => h) (by assumption) (by rfl) (fun w hSw => ?_) ?_
                      rotate_left
                      · (try dsimp only at hSw); go_simp; (try with_reducible rfl)
                      try simp only [Act.put, List.setIfInBounds_toArray, List.set_cons_zero, List.set_cons_succ]
                      refine' wpAnyZ_takeA (i := 2) (v := ?_) (opAt rfl) (by kernel_rfl) (by kernel_rfl) (by kernel_rfl) (by kernel_rfl) (fun _ _ _ h => h) (by assumption) (by rfl) (fun w hSw => ?_) ?_
                      rotate_left
                      · (try dsimp only at hSw); go_simp; (try with_reducible rfl)
                      try simp only [Act.put, List.setIfInBounds_toArray, List.set_cons_zero, List.set_cons_succ]
                      refine' wpAnyZ_takeA (i := 3) (v := ?_) (opAt rfl) (by kernel_rfl) (by kernel_rfl) (by kernel_rfl) (by kernel_rfl) (fun _ _ _ h => h) (by assumption) (by rfl) (fun w hSw => ?_) ?_
                      rotate_left
                      · (try dsimp only at hSw); go_simp; (try with_reducible rfl)
                      try simp only [Act.put, List.setIfInBounds_toArray, List.set_cons_zero, List.set_cons_succ]
                      refine' wpAnyZ_takeA (i := 4) (v := ?_) (opAt rfl) (by kernel_rfl) (by kernel_rfl) (by kernel_rfl) (by kernel_rfl) (fun _ _ _ h => h) (by assumption) (by rfl) (fun w hSw => ?_) ?_
                      rotate_left
                      · (try dsimp only at hSw); go_simp; (try with_reducible rfl)
                      try simp only [Act.put, List.setIfInBounds_toArray, List.set_cons_zero, List.set_cons_succ]
                      refine' wpAnyZ_takeA (i := 5) (v := ?_) (opAt rfl) (by kernel_rfl) (by kernel_rfl) (by kernel_rfl) (by kernel_rfl) (fun _ _ _ h => h) (by assumption) (by rfl) (fun w hSw => ?_) ?_
                      rotate_left
                      · (try dsimp only at hSw); go_simp; (try with_reducible rfl)
                      try simp only [Act.put, List.setIfInBounds_toArray, List.set_cons_zero, List.set_cons_succ]
                      refine' wpAnyZ_takeA (i := 6) (v := ?_) (opAt rfl) (by kernel_rfl) (by kernel_rfl) (by kernel_rfl) (by kernel_rfl) (fun _ _ _ h => h) (by assumption) (by rfl) (fun w hSw => ?_) ?_
                      rotate_left
                      · (try dsimp only at hSw); go_simp; (try with_reducible rfl)
                      try simp only [Act.put, List.setIfInBounds_toArray, List.set_cons_zero, List.set_cons_succ]
                      refine' wpAnyZ_takeA (i := 7) (v := ?_) (opAt rfl) (by kernel_rfl) (by kernel_rfl) (by kernel_rfl) (by kernel_rfl) (fun _ _ _ h => h) (by assumption) (by rfl) (fun w hSw => ?_) ?_
                      rotate_left
                      · (try dsimp only at hSw); go_simp; (try with_reducible rfl)
                      try simp only [Act.put, List.setIfInBounds_toArray, List.set_cons_zero, List.set_cons_succ]
                      refine' wpAnyZ_takeA (i := 8) (v := ?_) (opAt rfl) (by kernel_rfl) (by kernel_rfl) (by kernel_rfl) (by kernel_rfl) (fun _ _ _ h => h) (by assumption) (by rfl) (fun w hSw => ?_) ?_
                      rotate_left
                      · (try dsimp only at hSw); go_simp; (try with_reducible rfl)
                      try simp only [Act.put, List.setIfInBounds_toArray, List.set_cons_zero, List.set_cons_succ]
                      refine' wpAnyZ_takeA (i := 9) (v := ?_) (opAt rfl) (by kernel_rfl) (by kernel_rfl) (by kernel_rfl) (by kernel_rfl) (fun _ _ _ h => h) (by assumption) (by rfl) (fun w hSw => ?_) ?_
                      rotate_left
                      · (try dsimp only at hSw); go_simp; (try with_reducible rfl)
                      try simp only [Act.put, List.setIfInBounds_toArray, List.set_cons_zero, List.set_cons_succ]
                      refine' wpAnyZ_takeA (i := 10) (v := ?_) (opAt rfl) (by kernel_rfl) (by kernel_rfl) (by kernel_rfl) (by kernel_rfl) (fun _ _ _ h => h) (by assumption) (by rfl) (fun w hSw => ?_) ?_
                      rotate_left
                      · (try dsimp only at hSw); go_simp; (try with_reducible rfl)
                      try simp only [Act.put, List.setIfInBounds_toArray, List.set_cons_zero, List.set_cons_succ]
                      refine wpAnyZ_ready (rs := [11]) (by kernel_rfl) (by simp) ?_
                      refine AllReadyZ.cons (opAt rfl) (fun K hK => ?_) ?_
                      · skip
                        go_simp
                        refine (SL.out _).mono ?_
                        rintro e ws1 ⟨rfl, rfl⟩
                        try go_wp2_with fail
                        refine hK.out _ _ (by exact ⟨(ZX.out _ orow).2.2, bc.cell 4⟩) (fun hHeld => ?_)
                        clear hK K
                        try simp only [Act.put, List.setIfInBounds_toArray, List.set_cons_zero, List.set_cons_succ]
                        refine' wpAnyZ_takeA (i := 12) (v := ?_) (opAt rfl) (by kernel_rfl) (by kernel_rfl) (by kernel_rfl) (by kernel_rfl) (fun _ _ _ h => h) (by assumption) (by rfl) (fun w hSw => ?_) ?_
                        rotate_left
                        · (try dsimp only at hSw); go_simp; (try with_reducible rfl)
                        try simp only [Act.put, List.setIfInBounds_toArray, List.set_cons_zero, List.set_cons_succ]
                        refine' wpAnyZ_takeA (i := 13) (v := ?_) (opAt rfl) (by kernel_rfl) (by kernel_rfl) (by kernel_rfl) (by kernel_rfl) (fun _ _ _ h => h) (by assumption) (by rfl) (fun w hSw => ?_) ?_
                        rotate_left
                        · (try dsimp only at hSw); go_simp; (try with_reducible rfl)
                        try simp only [Act.put, List.setIfInBounds_toArray, List.set_cons_zero, List.set_cons_succ]
                        refine wpAnyZ_done (by kernel_rfl) ?_ _
                        have mc := fun i => bc.cell i
                        go_wp2_with fail
                        go_roundw
                        case measure => simp [intOf]; omega
                        case rel => exact ⟨q + 1, false, by go_num, hq1.out, rfl, by rw [hcast.out]; simpa using HBN.out, R, ba, bc, orow, B0⟩
                      exact AllReadyZ.nil
            · have hqe : (q : Int) = t := by omega
              have HQE := hide hqe
              have hN0 : (0 : Int) < (N : Int) := by have := HS3.out; omega
              have ZX := hide (fun (w9 : World) (o : w9.ownsRow lo 29 1 (.slice (some aw) N cw) N (ints .u64 was)) => own_word0 o (by omega))
              have ZY := hide (fun (w9 : World) (R : RefOk w9 g ws) => R.at_ (j := 0) (by rw [hwsl]; omega))
              have ma := fun i => ba.cell i
              have mc := fun i => bc.cell i
              have HBQ := hide hbq
              clear hqe hbq
              cases b with
              | true =>
                obtain ⟨hfu, hoc, hw0⟩ : freeU own p t was ∧ x.oc = 3 ∧ ws.getD 0 0 = (was.getD 0 0 + 1) % 18446744073709551616 := by
                  rcases HEND.out with h | h
                  · exact h
                  · exact absurd (by rw [← HQE.out]; exact HBQ.out.1 rfl) h.1
                rw [RO, hoc, show max (3 : Int) 1 = 3 from rfl] at DN
                rw [hw0] at ZY
                have hN0 : 0 < N := by have := HS3.out; omega
                have hN0i : (0 : Int) < (N : Int) := by omega
                clear hfu hw0 RO HEND HBQ HWF
                generalize was.getD 0 0 = ev0 at *
                have hmod := u64_mod (ev0 + 1)
                go_wp2_with fail
                refine (DN.out _).mono ?_
                rintro e wz ⟨rfl, hb1⟩
                clear ma mc
                replace bc := bc.below hb1 bc.lt
                replace R := R.below hb1
                replace orow := own_below orow hb1
                replace B0 := B0.trans (hb1.mono B0.size)
                clear hb1
                go_wp2_with fail
                refine wp_region_heldZ [] (fun w' => w'.cell? ⟨g, 0, none⟩ = some (.int .u64 ((ev0 + 1) % 18446744073709551616)) ∧ w'.cell? aw = some (.int .u64 ev0)) (by kernel_rfl) (by exact ⟨ZY.out _ R, ZX.out _ orow⟩) (fun hHeld => ?_)
                replace bc := bc.drew
                replace R := (show RefOk wz.drew g _ from R)
                replace orow := (show wz.drew.ownsRow _ _ _ _ _ _ from orow)
                replace B0 := B0.drew
                generalize wz.drew = w0y at *
                refine' wpAnyZ_takeA (i := 0) (v := ?_) (opAt rfl) (by kernel_rfl) (by kernel_rfl) (by kernel_rfl) (by kernel_rfl) (fun _ _ _ h => h) (by assumption) (by rfl) (fun w hSw => ?_) ?_
                rotate_left
                · (try dsimp only at hSw); go_simp; (try with_reducible rfl)
                try simp only [Act.put, List.setIfInBounds_toArray, List.set_cons_zero, List.set_cons_succ]
                refine' wpAnyZ_takeA (i := 1) (v := ?_) (opAt rfl) (by kernel_rfl) (by kernel_rfl) (by kernel_rfl) (by kernel_rfl) (fun _ _ _ h => h) (by assumption) (by rfl) (fun w hSw => ?_) ?_
                rotate_left
                · (try dsimp only at hSw); go_simp; (try with_reducible rfl)
                try simp only [Act.put, List.setIfInBounds_toArray, List.set_cons_zero, List.set_cons_succ]
                refine' wpAnyZ_takeA (i := 2) (v := ?_) (opAt rfl) (by kernel_rfl) (by kernel_rfl) (by kernel_rfl) (by kernel_rfl) (fun _ _ _ h => h) (by assumption) (by rfl) (fun w hSw => ?_) ?_
                rotate_left
                · (try dsimp only at hSw); go_simp; (try with_reducible rfl)
                try simp only [Act.put, List.setIfInBounds_toArray, List.set_cons_zero, List.set_cons_succ]
                refine' wpAnyZ_takeA (i := 3) (v := ?_) (opAt rfl) (by kernel_rfl) (by kernel_rfl) (by kernel_rfl) (by kernel_rfl) (fun _ _ _ h => h) (by assumption) (by rfl) (fun w hSw => ?_) ?_
                rotate_left
                · (try dsimp only at hSw); go_simp; (try with_reducible rfl)
                try simp only [Act.put, List.setIfInBounds_toArray, List.set_cons_zero, List.set_cons_succ]
                refine' wpAnyZ_takeA (i := 4) (v := ?_) (opAt rfl) (by kernel_rfl) (by kernel_rfl) (by kernel_rfl) (by kernel_rfl) (fun _ _ _ h => h) (by assumption) (by rfl) (fun w hSw => ?_) ?_
                rotate_left
                · (try dsimp only at hSw); go_simp; (try with_reducible rfl)
                try simp only [Act.put, List.setIfInBounds_toArray, List.set_cons_zero, List.set_cons_succ]
                refine' wpAnyZ_takeA (i := 5) (v := ?_) (opAt rfl) (by kernel_rfl) (by kernel_rfl) (by kernel_rfl) (by kernel_rfl) (fun _ _ _ h => h) (by assumption) (by rfl) (fun w hSw => ?_) ?_
                rotate_left
                · (try dsimp only at hSw); go_simp; (try with_reducible rfl)
                try simp only [Act.put, List.setIfInBounds_toArray, List.set_cons_zero, List.set_cons_succ]
                refine' wpAnyZ_takeA (i := 6) (v := ?_) (opAt rfl) (by kernel_rfl) (by kernel_rfl) (by kernel_rfl) (by kernel_rfl) (fun _ _ _ h => h) (by assumption) (by rfl) (fun w hSw => ?_) ?_
                rotate_left
                · (try dsimp only at hSw); go_simp; (try with_reducible rfl)
                try simp only [Act.put, List.setIfInBounds_toArray, List.set_cons_zero, List.set_cons_succ]
                refine' wpAnyZ_takeA (i := 7) (v := ?_) (opAt rfl) (by kernel_rfl) (by kernel_rfl) (by kernel_rfl) (by kernel_rfl) (fun _ _ _ h => h) (by assumption) (by rfl) (fun w hSw => ?_) ?_
                rotate_left
                · (try dsimp only at hSw); go_simp; (try with_reducible rfl)
                try simp only [Act.put, List.setIfInBounds_toArray, List.set_cons_zero, List.set_cons_succ]
                refine' wpAnyZ_takeA (i := 8) (v := ?_) (opAt rfl) (by kernel_rfl) (by kernel_rfl) (by kernel_rfl) (by kernel_rfl) (fun _ _ _ h => h) (by assumption) (by rfl) (fun w hSw => ?_) ?_
                rotate_left
                · (try dsimp only at hSw); go_simp; (try with_reducible rfl)
                try simp only [Act.put, List.setIfInBounds_toArray, List.set_cons_zero, List.set_cons_succ]
                refine' wpAnyZ_takeA (i := 9) (v := ?_) (opAt rfl) (by kernel_rfl) (by kernel_rfl) (by kernel_rfl) (by kernel_rfl) (fun _ _ _ h => h) (by assumption) (by rfl) (fun w hSw => ?_) ?_
                rotate_left
                · (try dsimp only at hSw); go_simp; (try with_reducible rfl)
                try simp only [Act.put, List.setIfInBounds_toArray, List.set_cons_zero, List.set_cons_succ]
                refine' wpAnyZ_takeA (i := 10) (v := ?_) (opAt rfl) (by kernel_rfl) (by kernel_rfl) (by kernel_rfl) (by kernel_rfl) (fun _ _ _ h => h) (by assumption) (by rfl) (fun w hSw => ?_) ?_
                rotate_left
                · (try dsimp only at hSw); go_simp; (try with_reducible rfl)
                try simp only [Act.put, List.setIfInBounds_toArray, List.set_cons_zero, List.set_cons_succ]
                refine' wpAnyZ_takeA (i := 11) (v := ?_) (opAt rfl) (by kernel_rfl) (by kernel_rfl) (by kernel_rfl) (by kernel_rfl) (fun _ _ _ h => h) (by assumption) (by rfl) (fun w hSw => ?_) ?_
                rotate_left
                · (try dsimp only at hSw); go_simp; (try with_reducible rfl)
                try simp only [Act.put, List.setIfInBounds_toArray, List.set_cons_zero, List.set_cons_succ]
                refine' wpAnyZ_takeA (i := 12) (v := ?_) (opAt rfl) (by kernel_rfl) (by kernel_rfl) (by kernel_rfl) (by kernel_rfl) (fun _ _ _ h => h) (by assumption) (by rfl) (fun w hSw => ?_) ?_
                rotate_left
                · (try dsimp only at hSw); go_simp; (try with_reducible rfl)
                try simp only [Act.put, List.setIfInBounds_toArray, List.set_cons_zero, List.set_cons_succ]
                refine wpAnyZ_ready (rs := [13]) (by kernel_rfl) (by simp) ?_
                refine AllReadyZ.cons (opAt rfl) (fun K hK => ?_) ?_
                · skip
                  go_simp
                  refine (awake18 _ (HT.out.below B0)).mono ?_
                  rintro e wk ⟨rfl, hb1⟩
                  replace bc := bc.below hb1 bc.lt
                  replace R := R.below hb1
                  replace orow := own_below orow hb1
                  replace B0 := B0.trans (hb1.mono B0.size)
                  clear hb1
                  try go_wp2_with fail
                  refine hK.out _ _ (by exact ⟨ZY.out _ R, ZX.out _ orow⟩) (fun hHeld => ?_)
                  clear hK K
                  try simp only [Act.put, List.setIfInBounds_toArray, List.set_cons_zero, List.set_cons_succ]
                  refine' wpAnyZ_takeA (i := 14) (v := ?_) (opAt rfl) (by kernel_rfl) (by kernel_rfl) (by kernel_rfl) (by kernel_rfl) (fun _ _ _ h => h) (by assumption) (by rfl) (fun w hSw => ?_) ?_
                  rotate_left
                  · (try dsimp only at hSw); go_simp; (try with_reducible rfl)
                  try simp only [Act.put, List.setIfInBounds_toArray, List.set_cons_zero, List.set_cons_succ]
                  refine' wpAnyZ_takeA (i := 15) (v := ?_) (opAt rfl) (by kernel_rfl) (by kernel_rfl) (by kernel_rfl) (by kernel_rfl) (fun _ _ _ h => h) (by assumption) (by rfl) (fun w hSw => ?_) ?_
                  rotate_left
                  · (try dsimp only at hSw); go_simp; (try with_reducible rfl)
                  try simp only [Act.put, List.setIfInBounds_toArray, List.set_cons_zero, List.set_cons_succ]
                  refine wpAnyZ_done (by kernel_rfl) ?_ _
                  go_wp2_with fail
                  go_ret
                  exact ⟨rfl, B0⟩
                exact AllReadyZ.nil
              | false =>
                obtain ⟨hfu, hoc, hw0⟩ : ¬ freeU own p t was ∧ x.oc = 1 ∧ ws.getD 0 0 = was.getD 0 0 := by
                  rcases HEND.out with h | h
                  · exact absurd (HBQ.out.2 (by rw [HQE.out]; exact h.1)) (by simp)
                  · exact h
                rw [RO, hoc, show max (1 : Int) 1 = 1 from rfl] at DN
                rw [hw0] at ZY
                have hN0 : 0 < N := by have := HS3.out; omega
                have hN0i : (0 : Int) < (N : Int) := by omega
                clear hfu hw0 RO HEND HBQ HWF
                generalize was.getD 0 0 = ev0 at *
                skip
                go_wp2_with fail
                refine (DN.out _).mono ?_
                rintro e wz ⟨rfl, hb1⟩
                clear ma mc
                replace bc := bc.below hb1 bc.lt
                replace R := R.below hb1
                replace orow := own_below orow hb1
                replace B0 := B0.trans (hb1.mono B0.size)
                clear hb1
                go_wp2_with fail
                refine wp_region_heldZ [] (fun w' => w'.cell? ⟨g, 0, none⟩ = some (.int .u64 (ev0)) ∧ w'.cell? aw = some (.int .u64 ev0)) (by kernel_rfl) (by exact ⟨ZY.out _ R, ZX.out _ orow⟩) (fun hHeld => ?_)
                replace bc := bc.drew
                replace R := (show RefOk wz.drew g _ from R)
                replace orow := (show wz.drew.ownsRow _ _ _ _ _ _ from orow)
                replace B0 := B0.drew
                generalize wz.drew = w0y at *
                refine' wpAnyZ_takeA (i := 0) (v := ?_) (opAt rfl) (by kernel_rfl) (by kernel_rfl) (by kernel_rfl) (by kernel_rfl) (fun _ _ _ h => h) (by assumption) (by rfl) (fun w hSw => ?_) ?_
                rotate_left
                · (try dsimp only at hSw); go_simp; (try with_reducible rfl)
                try simp only [Act.put, List.setIfInBounds_toArray, List.set_cons_zero, List.set_cons_succ]
                refine' wpAnyZ_takeA (i := 1) (v := ?_) (opAt rfl) (by kernel_rfl) (by kernel_rfl) (by kernel_rfl) (by kernel_rfl) (fun _ _ _ h => h) (by assumption) (by rfl) (fun w hSw => ?_) ?_
                rotate_left
                · (try dsimp only at hSw); go_simp; (try with_reducible rfl)
                try simp only [Act.put, List.setIfInBounds_toArray, List.set_cons_zero, List.set_cons_succ]
                refine' wpAnyZ_takeA (i := 2) (v := ?_) (opAt rfl) (by kernel_rfl) (by kernel_rfl) (by kernel_rfl) (by kernel_rfl) (fun _ _ _ h => h) (by assumption) (by rfl) (fun w hSw => ?_) ?_
                rotate_left
                · (try dsimp only at hSw); go_simp; (try with_reducible rfl)
                try simp only [Act.put, List.setIfInBounds_toArray, List.set_cons_zero, List.set_cons_succ]
                refine' wpAnyZ_takeA (i := 3) (v := ?_) (opAt rfl) (by kernel_rfl) (by kernel_rfl) (by kernel_rfl) (by kernel_rfl) (fun _ _ _ h => h) (by assumption) (by rfl) (fun w hSw => ?_) ?_
                rotate_left
                · (try dsimp only at hSw); go_simp; (try with_reducible rfl)
                try simp only [Act.put, List.setIfInBounds_toArray, List.set_cons_zero, List.set_cons_succ]
                refine' wpAnyZ_takeA (i := 4) (v := ?_) (opAt rfl) (by kernel_rfl) (by kernel_rfl) (by kernel_rfl) (by kernel_rfl) (fun _ _ _ h => h) (by assumption) (by rfl) (fun w hSw => ?_) ?_
                rotate_left
                · (try dsimp only at hSw); go_simp; (try with_reducible rfl)
                try simp only [Act.put, List.setIfInBounds_toArray, List.set_cons_zero, List.set_cons_succ]
                refine' wpAnyZ_takeA (i := 5) (v := ?_) (opAt rfl) (by kernel_rfl) (by kernel_rfl) (by kernel_rfl) (by kernel_rfl) (fun _ _ _ h => h) (by assumption) (by rfl) (fun w hSw => ?_) ?_
                rotate_left
                · (try dsimp only at hSw); go_simp; (try with_reducible rfl)
                try simp only [Act.put, List.setIfInBounds_toArray, List.set_cons_zero, List.set_cons_succ]
                refine' wpAnyZ_takeA (i := 6) (v := ?_) (opAt rfl) (by kernel_rfl) (by kernel_rfl) (by kernel_rfl) (by kernel_rfl) (fun _ _ _ h => h) (by assumption) (by rfl) (fun w hSw => ?_) ?_
                rotate_left
                · (try dsimp only at hSw); go_simp; (try with_reducible rfl)
                try simp only [Act.put, List.setIfInBounds_toArray, List.set_cons_zero, List.set_cons_succ]
                refine' wpAnyZ_takeA (i := 7) (v := ?_) (opAt rfl) (by kernel_rfl) (by kernel_rfl) (by kernel_rfl) (by kernel_rfl) (fun _ _ _ h => h) (by assumption) (by rfl) (fun w hSw => ?_) ?_
                rotate_left
                · (try dsimp only at hSw); go_simp; (try with_reducible rfl)
                try simp only [Act.put, List.setIfInBounds_toArray, List.set_cons_zero, List.set_cons_succ]
                refine' wpAnyZ_takeA (i := 8) (v := ?_) (opAt rfl) (by kernel_rfl) (by kernel_rfl) (by kernel_rfl) (by kernel_rfl) (fun _ _ _ h => h) (by assumption) (by rfl) (fun w hSw => ?_) ?_
                rotate_left
                · (try dsimp only at hSw); go_simp; (try with_reducible rfl)
                try simp only [Act.put, List.setIfInBounds_toArray, List.set_cons_zero, List.set_cons_succ]
                refine' wpAnyZ_takeA (i := 9) (v := ?_) (opAt rfl) (by kernel_rfl) (by kernel_rfl) (by kernel_rfl) (by kernel_rfl) (fun _ _ _ h => h) (by assumption) (by rfl) (fun w hSw => ?_) ?_
                rotate_left
                · (try dsimp only at hSw); go_simp; (try with_reducible rfl)
                try simp only [Act.put, List.setIfInBounds_toArray, List.set_cons_zero, List.set_cons_succ]
                refine' wpAnyZ_takeA (i := 10) (v := ?_) (opAt rfl) (by kernel_rfl) (by kernel_rfl) (by kernel_rfl) (by kernel_rfl) (fun _ _ _ h => h) (by assumption) (by rfl) (fun w hSw => ?_) ?_
                rotate_left
                · (try dsimp only at hSw); go_simp; (try with_reducible rfl)
                try simp only [Act.put, List.setIfInBounds_toArray, List.set_cons_zero, List.set_cons_succ]
                refine' wpAnyZ_takeA (i := 11) (v := ?_) (opAt rfl) (by kernel_rfl) (by kernel_rfl) (by kernel_rfl) (by kernel_rfl) (fun _ _ _ h => h) (by assumption) (by rfl) (fun w hSw => ?_) ?_
                rotate_left
                · (try dsimp only at hSw); go_simp; (try with_reducible rfl)
                try simp only [Act.put, List.setIfInBounds_toArray, List.set_cons_zero, List.set_cons_succ]
                refine wpAnyZ_ready (rs := [12]) (by kernel_rfl) (by simp) ?_
                refine AllReadyZ.cons (opAt rfl) (fun K hK => ?_) ?_
                · skip
                  go_simp
                  refine (awake18 _ (HT.out.below B0)).mono ?_
                  rintro e wk ⟨rfl, hb1⟩
                  replace bc := bc.below hb1 bc.lt
                  replace R := R.below hb1
                  replace orow := own_below orow hb1
                  replace B0 := B0.trans (hb1.mono B0.size)
                  clear hb1
                  try go_wp2_with fail
                  refine hK.out _ _ (by exact ⟨ZY.out _ R, ZX.out _ orow⟩) (fun hHeld => ?_)
                  clear hK K
                  try simp only [Act.put, List.setIfInBounds_toArray, List.set_cons_zero, List.set_cons_succ]
                  refine' wpAnyZ_takeA (i := 13) (v := ?_) (opAt rfl) (by kernel_rfl) (by kernel_rfl) (by kernel_rfl) (by kernel_rfl) (fun _ _ _ h => h) (by assumption) (by rfl) (fun w hSw => ?_) ?_
                  rotate_left
                  · (try dsimp only at hSw); go_simp; (try with_reducible rfl)
                  try simp only [Act.put, List.setIfInBounds_toArray, List.set_cons_zero, List.set_cons_succ]
                  refine' wpAnyZ_takeA (i := 14) (v := ?_) (opAt rfl) (by kernel_rfl) (by kernel_rfl) (by kernel_rfl) (by kernel_rfl) (fun _ _ _ h => h) (by assumption) (by rfl) (fun w hSw => ?_) ?_
                  rotate_left
                  · (try dsimp only at hSw); go_simp; (try with_reducible rfl)
                  try simp only [Act.put, List.setIfInBounds_toArray, List.set_cons_zero, List.set_cons_succ]
                  refine wpAnyZ_done (by kernel_rfl) ?_ _
                  go_wp2_with fail
                  go_ret
                  exact ⟨rfl, B0⟩
                exact AllReadyZ.nil
        · have hnb := hide (hbd.2 h0)
          have hk : (x.k == 0) = false := by simpa using h0
          have WT := hide (fun w2 => awant_any s t f l p own x True w2 hA (fun _ => ⟨hs, hf⟩))
          have hwsl : ws.length = N := hI.len.trans hwl
          have hgot := mDo1_w64 h64 (aAsk x).1 (aAsk x).2.1 (aAsk x).2.2.1 (aAsk x).2.2.2
          have HI2 := hide (hI.step (by omega) hown (by rw [hwl]; exact HS3.out) h0)
          have HA2 := hide (aTook_ok (p := p) hA hgot)
          have HW2 := hide (mDo_w64 (k := (aAsk x).1) (a := (aAsk x).2.1) (o := (aAsk x).2.2.1) h64 (aAsk_w64 hA.2.1 hA.2.2.1))
          have DO := hide (fun w9 (R : RefOk w9 g ws) => rdo_any g N (aAsk x).1 (aAsk x).2.1 (aAsk x).2.2.1 (aAsk x).2.2.2 ws w9 R)
          rw [hwsl] at DO
          have TK := hide (fun w2 => atook_any s t f l p own _ x True w2 hA hp hgot)
          have DN := hide (fun w2 => adone_any s t f l p own (aTook own t p x (mDo ws (aAsk x).1 (aAsk x).2.1 (aAsk x).2.2.1 (aAsk x).2.2.2).1) w2)
          generalize (aAsk x).1 = a1 at *
          generalize (aAsk x).2.1 = a2 at *
          generalize (aAsk x).2.2.1 = a3 at *
          generalize (aAsk x).2.2.2 = a4 at *
          generalize (mDo ws a1 a2 a3 a4).1 = got at *
          generalize (mDo ws a1 a2 a3 a4).2 = ws2 at *
          generalize aTook own t p x got = x2 at *
          obtain ⟨k, oc, ep, th, wd, ev, ju⟩ := x
          obtain ⟨k2, oc2, ep2, th2, wd2, ev2, ju2⟩ := x2
          simp only [avV] at WT TK DN
          simp only at hk ba
          have hnb2 : (nn : Int) ≤ 3 * t + 2 := hnb.out
          have mc := fun i => bc.cell i
          clear hI hA h64 hbd h0 hgot hwsl
          go_wp2_with fail
          clear mc e1 e2 hnb2 hk
          have hnb2 := hnb.out
          refine wp_region_heldZ [6] (fun w' => w'.cell? ⟨ga, 0, none⟩ = some (.int .i64 s) ∧ w'.cell? ⟨ga, 1, none⟩ = some (.int .i64 t) ∧ w'.cell? ⟨ga, 2, none⟩ = some (.int .i64 f) ∧ w'.cell? ⟨ga, 3, none⟩ = some (.int .i64 l) ∧ w'.cell? ⟨ga, 4, none⟩ = some (.int .i64 p) ∧ w'.cell? ⟨ga, 5, none⟩ = some (.int .i64 own) ∧ w'.cell? ⟨ga, 6, none⟩ = some (.int .i64 k) ∧ w'.cell? ⟨ga, 7, none⟩ = some (.int .i64 oc) ∧ w'.cell? ⟨ga, 8, none⟩ = some (.int .u64 ep) ∧ w'.cell? ⟨ga, 9, none⟩ = some (.int .i64 th) ∧ w'.cell? ⟨ga, 10, none⟩ = some (.int .u64 wd) ∧ w'.cell? ⟨ga, 11, none⟩ = some (.int .u64 (ev : Int)) ∧ w'.cell? ⟨ga, 12, none⟩ = some (.int .i64 ju)) (by kernel_rfl) (by exact cells13 ba) (fun hHeld => ?_)
          replace ba := ba.drew
          replace bc := bc.drew
          replace R := (show RefOk wr.drew g _ from R)
          replace orow := (show wr.drew.ownsRow _ _ _ _ _ _ from orow)
          replace B0 := B0.drew
          generalize wr.drew = w0x at *
          refine' wpAnyZ_takeA (i := 0) (v := ?_) (opAt rfl) (by kernel_rfl) (by kernel_rfl) (by kernel_rfl) (by kernel_rfl) (fun _ _ _ h => h) (by assumption) (by rfl) (fun w hSw => ?_) ?_
          rotate_left
          · (try dsimp only at hSw); go_simp; (try with_reducible rfl)
          try simp only [Act.put, List.setIfInBounds_toArray, List.set_cons_zero, List.set_cons_succ]
          refine' wpAnyZ_takeA (i := 1) (v := ?_) (opAt rfl) (by kernel_rfl) (by kernel_rfl) (by kernel_rfl) (by kernel_rfl) (fun _ _ _ h => h) (by assumption) (by rfl) (fun w hSw => ?_) ?_
          rotate_left
          · (try dsimp only at hSw); go_simp; (try with_reducible rfl)
          try simp only [Act.put, List.setIfInBounds_toArray, List.set_cons_zero, List.set_cons_succ]
          refine' wpAnyZ_takeA (i := 2) (v := ?_) (opAt rfl) (by kernel_rfl) (by kernel_rfl) (by kernel_rfl) (by kernel_rfl) (fun _ _ _ h => h) (by assumption) (by rfl) (fun w hSw => ?_) ?_
          rotate_left
          · (try dsimp only at hSw); go_simp; (try with_reducible rfl)
          try simp only [Act.put, List.setIfInBounds_toArray, List.set_cons_zero, List.set_cons_succ]
          refine wpAnyZ_ready (rs := [3]) (by kernel_rfl) (by simp) ?_
          refine AllReadyZ.cons (opAt rfl) (fun K hK => ?_) ?_
          · skip
            go_simp
            refine (WT.out _).mono ?_
            rintro e wv1 ⟨rfl, hb1⟩
            replace ba := ba.below hb1 ba.lt
            replace bc := bc.below hb1 bc.lt
            replace R := R.below hb1
            replace orow := own_below orow hb1
            replace B0 := B0.trans (hb1.mono B0.size)
            clear hb1
            try go_wp2_with fail
            refine hK.out _ _ (by exact cells13 ba) (fun hHeld => ?_)
            clear hK K
            try simp only [Act.put, List.setIfInBounds_toArray, List.set_cons_zero, List.set_cons_succ]
            refine wpAnyZ_ready (rs := [4]) (by kernel_rfl) (by simp) ?_
            refine AllReadyZ.cons (opAt rfl) (fun K hK => ?_) ?_
            · skip
              go_simp
              refine (DO.out _ R).mono ?_
              rintro e wd1 ⟨rfl, R9, hg9⟩
              replace ba := ba.grown hg9 (HNG.out _ _ _ _ ba R)
              replace bc := bc.grown hg9 HCG.out
              replace orow := own_grown orow hg9 HOG.out
              replace B0 := below_grown B0 hg9 HG.out B0.size
              replace R := R9
              clear R9 hg9
              try go_wp2_with fail
              refine hK.out _ _ (by exact cells13 ba) (fun hHeld => ?_)
              clear hK K
              try simp only [Act.put, List.setIfInBounds_toArray, List.set_cons_zero, List.set_cons_succ]
              refine wpAnyZ_ready (rs := [5]) (by kernel_rfl) (by simp) ?_
              refine AllReadyZ.cons (opAt rfl) (fun K hK => ?_) ?_
              · skip
                go_simp
                refine (TK.out _).mono ?_
                rintro e wt1 ⟨rfl, hb1⟩
                replace ba := ba.below hb1 ba.lt
                replace bc := bc.below hb1 bc.lt
                replace R := R.below hb1
                replace orow := own_below orow hb1
                replace B0 := B0.trans (hb1.mono B0.size)
                clear hb1
                try go_wp2_with fail
                refine hK.out _ _ (by exact cells13 ba) (fun hHeld => ?_)
                clear hK K
                try simp only [Act.put, List.setIfInBounds_toArray, List.set_cons_zero, List.set_cons_succ]
                refine wpAnyZ_ready (rs := [6]) (by kernel_rfl) (by simp) ?_
                refine AllReadyZ.last (opAt rfl) (by kernel_rfl) (fun K hK => ?_) ?_
                · skip
                  have zo := fun i => ba.frozen i
                  have mo := fun i => ba.cell i
                  go_simp
                  refine hK.out _ _ ?_
                  clear hK K
                  try simp only [Act.put, List.setIfInBounds_toArray, List.set_cons_zero, List.set_cons_succ]
                  refine wpAnyZ_done (by kernel_rfl) ?_ _
                  have R8 := ref_put13 R (HGG.out _ _ _ _ ba R) (.int .i64 s) (.int .i64 t) (.int .i64 f) (.int .i64 l) (.int .i64 p) (.int .i64 own) (.int .i64 k2) (.int .i64 oc2) (.int .u64 ep2) (.int .i64 th2) (.int .u64 wd2) (.int .u64 (ev2 : Int)) (.int .i64 ju2)
                  have bc8 := bc.off13 (bc.ne_ ba (by decide)) (.int .i64 s) (.int .i64 t) (.int .i64 f) (.int .i64 l) (.int .i64 p) (.int .i64 own) (.int .i64 k2) (.int .i64 oc2) (.int .u64 ep2) (.int .i64 th2) (.int .u64 wd2) (.int .u64 (ev2 : Int)) (.int .i64 ju2)
                  have or8 := own_put13 orow ba (by decide) (.int .i64 s) (.int .i64 t) (.int .i64 f) (.int .i64 l) (.int .i64 p) (.int .i64 own) (.int .i64 k2) (.int .i64 oc2) (.int .u64 ep2) (.int .i64 th2) (.int .u64 wd2) (.int .u64 (ev2 : Int)) (.int .i64 ju2)
                  have B8 := below_put13 B0 (g := ga) HGA.out (.int .i64 s) (.int .i64 t) (.int .i64 f) (.int .i64 l) (.int .i64 p) (.int .i64 own) (.int .i64 k2) (.int .i64 oc2) (.int .u64 ep2) (.int .i64 th2) (.int .u64 wd2) (.int .u64 (ev2 : Int)) (.int .i64 ju2)
                  have ba8 := ba.put13 (.int .i64 s) (.int .i64 t) (.int .i64 f) (.int .i64 l) (.int .i64 p) (.int .i64 own) (.int .i64 k2) (.int .i64 oc2) (.int .u64 ep2) (.int .i64 th2) (.int .u64 wd2) (.int .u64 (ev2 : Int)) (.int .i64 ju2)
                  clear R bc orow B0 ba mo zo
                  have R := R8
                  have bc := bc8
                  have orow := or8
                  have B0 := B8
                  have ba := ba8
                  clear R8 bc8 or8 B8 ba8
                  generalize (((((((((((((wt1).setCell ⟨ga, 0, none⟩ (.int .i64 s)).setCell ⟨ga, 1, none⟩ (.int .i64 t)).setCell ⟨ga, 2, none⟩ (.int .i64 f)).setCell ⟨ga, 3, none⟩ (.int .i64 l)).setCell ⟨ga, 4, none⟩ (.int .i64 p)).setCell ⟨ga, 5, none⟩ (.int .i64 own)).setCell ⟨ga, 6, none⟩ (.int .i64 k2)).setCell ⟨ga, 7, none⟩ (.int .i64 oc2)).setCell ⟨ga, 8, none⟩ (.int .u64 ep2)).setCell ⟨ga, 9, none⟩ (.int .i64 th2)).setCell ⟨ga, 10, none⟩ (.int .u64 wd2)).setCell ⟨ga, 11, none⟩ (.int .u64 (ev2 : Int))).setCell ⟨ga, 12, none⟩ (.int .i64 ju2) = w8 at *
                  have ma := fun i => ba.cell i
                  go_wp2_with fail
                  refine (DN.out _).mono ?_
                  rintro e w9 ⟨rfl, hb1⟩
                  clear ma
                  replace ba := ba.below hb1 ba.lt
                  replace bc := bc.below hb1 bc.lt
                  replace R := R.below hb1
                  replace orow := own_below orow hb1
                  replace B0 := B0.trans (hb1.mono B0.size)
                  clear hb1
                  go_wp2_with fail
                  go_roundw
                  case measure => simp [intOf]; omega
                  case rel => exact ⟨⟨k2, oc2, ep2, th2, wd2, ev2, ju2⟩, ws2, nn + 1, by go_num, rfl, by rw [show ((nn + 1 : Nat) : Int) = (nn : Int) + 1 by omega]; exact HI2.out, HA2.out, HW2.out, R, ba, bc, orow, B0⟩
                exact AllReadyZ.nil
              exact AllReadyZ.nil
            exact AllReadyZ.nil
          exact AllReadyZ.nil
end Go.Proofs.YtgcdmgpcfdfomaaDoor
