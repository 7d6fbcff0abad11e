/-
  dump.Tree; chapter 38's example.
-/
import Derived.Test.YtlnckjemfabckaaGreatDoorZ5
namespace Go.Proofs.YtlnckjemfabckaaGreatDoor
open Go.RowKit

theorem dnode_yes (gm gw : Nat) (s t f l p k : Int) (ws : List Int) (w : World) (hs : 1 ≤ s ∧ s ≤ 1000) (ht : 1 ≤ t ∧ t ≤ 64) (hf : 4 ≤ f ∧ f ≤ 64) (hk : 0 ≤ k ∧ k ≤ s) (M : MemOk w gm gw s t f l p ws) (h64 : AllW64 ws) :
    Calls Tryz.prog 12 #[.pointer (some ⟨gm, 0, none⟩), .int .i64 k] w fun e w' => e = .returned (.string (nodeT ws t f k)) ∧ Below w.heap.size w w' := by
  cases hin : nodI ws t f k with
  | true => exact dnode_in gm gw s t f l p k ws w hs ht hf hk M h64 hin
  | false => exact dnode_leaf gm gw s t f l p k ws w hs ht hf hk M h64 hin
set_option maxHeartbeats 400000 in
theorem dtree1_any (gm gw bx : Nat) (s t f l p k : Int) (ws : List Int) (w : World) (hs : 1 ≤ s ∧ s ≤ 1000) (ht : 1 ≤ t ∧ t ≤ 64) (hf : 4 ≤ f ∧ f ≤ 64) (hk : 0 ≤ k ∧ k ≤ s) (M : MemOk w gm gw s t f l p ws) (h64 : AllW64 ws) (hbx : Blk w bx 27 #[.pointer (some ⟨gm, 0, none⟩)]) :
    Calls Tryz.prog 57 #[.int .i64 k, .pointer (some ⟨bx, 0, none⟩)] w fun e w' => e = .returned (.string (nodeT ws t f k)) ∧ Below w.heap.size w w' := by
  have F := hide (dnode_yes gm gw s t f l p k ws w hs ht hf hk M h64)
  have mc := hbx.cell 0
  generalize nodeT ws t f k = R at *
  clear hs ht hf hk M h64
  go_enter Tryz.func57, Tryz.ntmps57
  go_wp2_with fail
  refine F.out.mono ?_
  rintro e w1 ⟨rfl, hb1⟩
  go_wp2_with fail
  go_ret
  exact ⟨rfl, hb1⟩
def treeT (ws : List Int) (s t f : Int) : ByteArray := linesT ((0 :: treeL ws s t f).map (nodeT ws t f))
theorem treeL_in (ws : List Int) (s t f : Int) (hs : 0 ≤ s) : ∀ x ∈ 0 :: treeL ws s t f, 0 ≤ x ∧ x ≤ s := by
  intro x hx
  rcases List.mem_cons.1 hx with rfl | hx
  · exact ⟨by omega, hs⟩
  · have := (comeN_nice (ndOf ws t f) s (s.toNat + 1) (wGet ws (nB t f 0 + 3 + f)) [] (nice_nil s)).1.2 x hx
    omega
theorem treeL_len (ws : List Int) (s t f : Int) (hs : 0 ≤ s) : (treeL ws s t f).length ≤ s.toNat :=
  nice_le (comeN_nice (ndOf ws t f) s (s.toNat + 1) (wGet ws (nB t f 0 + 3 + f)) [] (nice_nil s)).1 hs
theorem ints_flat (l : List Int) : ints .i64 l = l.flatMap fun x => [Value.int .i64 x] := by
  induction l with
  | nil => rfl
  | cons a l ih => simp [ints] at ih ⊢; exact ih
theorem infoInt : (Tryz.prog.info? 3).map (fun i => (i.zero, i.size, i.bytes)) = some (some (.int .i64 0), 1, 8) := by kernel_rfl
set_option maxRecDepth 100000 in
set_option maxHeartbeats 2000000 in
theorem dtree_yes (gm gw : Nat) (s t f l p : Int) (ws : List Int) (w : World) (hs : 1 ≤ s ∧ s ≤ 1000) (ht : 1 ≤ t ∧ t ≤ 64) (hf : 4 ≤ f ∧ f ≤ 64) (M : MemOk w gm gw s t f l p ws) (h64 : AllW64 ws) :
    Calls Tryz.prog 14 #[.pointer (some ⟨gm, 0, none⟩)] w fun e w' => e = .returned (.string (treeT ws s t f)) ∧ Below w.heap.size w w' := by
  obtain ⟨i0, hi0, hz0, hs0, hb0⟩ := info_parts infoInt
  have SZ := hide (fun w2 => size_any s t f l p w2 hs ht hf)
  have hsz := size_pos hs ht hf
  have hq : (laySize s t f == 0) = false := by simp; omega
  have TR := hide (fun w2 M => atree_any gm gw s t f l p ws w2 hs ht hf M h64)
  have HTL := hide (treeL_len ws s t f (by omega))
  have LN := hide (fun (bx : Nat) (A : Option Addr) (n c : Nat) (w2 : World) (M : MemOk w2 gm gw s t f l p ws) (hbx : Blk w2 bx 27 #[.pointer (some ⟨gm, 0, none⟩)]) (hr : Reads w2 w2.heap.size 1 A n (ints .i64 (0 :: treeL ws s t f))) (hn : n ≤ 5000) =>
    lines_int A n c (0 :: treeL ws s t f) (nodeT ws t f) bx w2 (by rw [← ints_flat]; exact hr) hn (fun k hk w3 hb => dtree1_any gm gw bx s t f l p k ws w3 hs ht hf (treeL_in ws s t f (by omega) k hk) (M.below hb) h64 (hbx.below hb hbx.lt)) (fun k _ => nodeT_size ws t f k h64 hf))
  rw [show linesT ((0 :: treeL ws s t f).map (nodeT ws t f)) = treeT ws s t f from rfl] at LN
  generalize treeT ws s t f = R at *
  have hsN : s.toNat ≤ 1000 := by omega
  replace HTL := hide (Nat.le_trans HTL.out hsN)
  generalize treeL ws s t f = L at *
  generalize laySize s t f = z at *
  have B0 := (Below.refl w.heap.size w).alloc (Nat.le_refl _) (.cells #[.pointer (some ⟨gm, 0, none⟩)] 27)
  have bx := Blk.new w 27 #[.pointer (some ⟨gm, 0, none⟩)]
  replace M := M.below ((Below.refl w.heap.size w).alloc (Nat.le_refl _) (.cells #[.pointer (some ⟨gm, 0, none⟩)] 27))
  obtain ⟨m0, m1, m2, m3, m4⟩ := mem5 M
  have mc := bx.cell 0
  clear hs ht hf h64 hsz hsN
  go_enter Tryz.func14, Tryz.ntmps14
  go_wp2_with fail
  refine (SZ.out _).mono ?_
  rintro e w1 ⟨rfl, hb1⟩
  replace M := M.below hb1
  replace bx := bx.below hb1 bx.lt
  replace B0 := B0.trans (hb1.mono B0.size)
  clear hb1 mc m0 m1 m2 m3 m4
  have hbl0 := bx.lt
  have HGM := hide (And.intro (Blk.lt M.1) (Blk.lt M.2.1))
  have ho := own_lit w1 3 #[.int .i64 0] 1 w1.heap.size (Nat.le_refl _) rfl (by omega)
  replace M := M.below ((Below.refl w1.heap.size w1).alloc (Nat.le_refl _) (.cells #[.int .i64 0] 3))
  replace bx := bx.alloc (.cells #[.int .i64 0] 3)
  have B1 := (Below.refl w1.heap.size w1).alloc (Nat.le_refl _) (.cells #[.int .i64 0] 3)
  have mc := bx.cell 0
  go_wp2_with fail
  generalize hg : w1.heap.size = g at *
  generalize w1.alloc (.cells #[.int .i64 0] 3) = w2 at *
  have HG := hide hg
  clear hg
  refine (TR.out _ M).mono ?_
  rintro e w3 ⟨⟨A, c, rfl, ho2⟩, hb1⟩
  replace M := M.below hb1
  replace bx := bx.below hb1 bx.lt
  replace ho := own_below ho hb1
  have B1s := B1.size
  rw [HG.out] at B1s
  replace B1 := B1.trans (hb1.mono B1s)
  clear hb1 mc B1s
  have hr6 := Reads.of_own ho2
  have hgs : g ≤ w3.heap.size := by have := B1.size; rw [HG.out] at this; exact this
  have HL := HTL.out
  go_wp2_with (at_builtin; refine wpList_append_any _ rfl (.tmp 13) (.tmp 15) _ rfl g 3 i0 _ 1 8 Tryz.underlying79 hi0 hz0 hs0 hb0 rfl (by omega) _ 1 _ rfl ho w3.heap.size A L.length c (ints .i64 L) rfl hr6 (ints_one _) (by unfold maxLen; omega) (by omega) hgs ?_; intro v3 w4 ho3 hg3 hat3; obtain ⟨A3, c3, rfl, hr3⟩ := own_reads ho3; replace bx := blk_appended bx ho hg3 hbl0)
  replace B1 := below_appended B1 ho hg3 (Nat.le_refl _) hgs
  have h1 := HGM.out.1
  have h2 := HGM.out.2
  replace M := M.grown hg3 (fun e => by have := (ho.lt gm e.symm).1; omega) (fun e => by have := (ho.lt gw e.symm).1; omega)
  have LNC := LN.out w.heap.size A3 (1 + L.length) c3 w4 M bx hr3 (by omega)
  have B0s := B0.size
  replace B0 := B0.trans (B1.mono (show w.heap.size ≤ g by omega))
  clear LN ho hg3 hat3 hr6 hr3 B1 h1 h2
  refine LNC.mono ?_
  rintro e w5 ⟨rfl, hb1⟩
  go_wp2_with fail
  go_ret
  exact ⟨rfl, B0.trans (hb1.mono B0.size)⟩
set_option maxRecDepth 100000 in
theorem beg_tree : treeT (begL 3 1 4) 3 1 4 = ⟨#[97, 110, 99, 104, 111, 114, 32, 105, 110, 110, 101, 114, 32, 49, 58, 49, 10, 49, 58, 49, 32, 108, 101, 97, 102, 10]⟩ := by
  unfold treeT
  rw [tree_beg (by omega) (by omega) (by omega)]
  kernel_rfl
theorem beg_step : stepT 2 1 0 0 0 5 [(5, 0, 0)] = ⟨#[50, 32, 108, 111, 97, 100, 32, 48, 32, 61, 32, 53, 32, 97, 103, 97, 105, 110]⟩ := by kernel_rfl
set_option maxRecDepth 100000 in
set_option maxHeartbeats 2000000 in
theorem awake38 (w : World) (hT : Tab w) : Calls Tryz.prog 6 #[] w fun e w' => e = .returned (.bool true) ∧ Below w.heap.size w w' := by
  have N := hide (anew10_yes 3 1 4 1 3 50 w hT (by decide) (by decide))
  have T := hide (fun gm gw w2 (M : MemOk w2 gm gw 3 1 4 1 3 (begL 3 1 4)) => dtree_yes gm gw 3 1 4 1 3 (begL 3 1 4) w2 (by omega) (by omega) (by omega) M (begL_w64 (by omega)))
  rw [beg_tree] at T
  have ST := hide (fun (w2 : World) (hb : Below w.heap.size w w2) (bl : Blk w2 (w2.heap.size - 1) 57 #[.int .i64 5, .int .u64 0, .int .u64 0]) => step_x 2 1 0 0 0 5 [(5, 0, 0)] (some ⟨w2.heap.size - 1, 0, none⟩) 1 1 w2 (hT.below hb) ⟨by omega, by omega⟩ (by omega) (by omega) ⟨by omega, by omega⟩ ⟨by omega, by omega⟩ (by omega) (by omega) (by omega)
    (fun m hm => by
      rw [List.mem_singleton] at hm
      subst hm
      exact ⟨⟨by decide, by decide⟩, by decide, by decide⟩) rfl (by omega) ((Reads.blk bl 1 3 rfl).more (by have := bl.lt; omega)))
  rw [beg_step] at ST
  clear hT
  go_enter Tryz.func6, Tryz.ntmps6
  go_wp2_with fail
  refine (N.out).mono ?_
  rintro e w1 ⟨⟨gm, gw, rfl, M, _, _⟩, hb1⟩
  go_wp2_with fail
  refine (T.out _ _ _ M).mono ?_
  rintro e w2 ⟨rfl, hb2⟩
  replace hb1 := hb1.trans (hb2.mono hb1.size)
  clear hb2 M
  have bl := Blk.new w2 57 #[.int .i64 5, .int .u64 0, .int .u64 0]
  replace hb1 := hb1.alloc hb1.size (.cells #[.int .i64 5, .int .u64 0, .int .u64 0] 57)
  have S2 := ST.out _ hb1
  rw [World.size_alloc, Nat.add_sub_cancel] at S2
  have S3 := hide (S2 bl)
  clear S2 ST bl
  go_wp2_with fail
  refine S3.out.mono ?_
  rintro e w3 ⟨rfl, hb2⟩
  replace hb1 := hb1.trans (hb2.mono (by have := hb1.size; rw [World.size_alloc] at this; exact this))
  go_wp2_with fail
  go_ret
  exact ⟨rfl, hb1⟩
end Go.Proofs.YtlnckjemfabckaaGreatDoor

/-
  gleaningref38.Tree; nodes and trees that there are not.
-/
namespace Go.Proofs.YtlnckjemfabckaaGreatDoor
open Go.RowKit

theorem rdnode_yes (g : Nat) (s t f l p k : Int) (N0 c0 : Nat) (ws : List Int) (w : World) (hs : 1 ≤ s ∧ s ≤ 1000) (ht : 1 ≤ t ∧ t ≤ 64) (hf : 4 ≤ f ∧ f ≤ 64) (hk : 0 ≤ k ∧ k ≤ s) (hN0 : laySize s t f = N0) (hl : ws.length = N0) (R : RefOk w g ws) (h64 : AllW64 ws) :
    Calls Tryz.prog 13 #[.agg #[.int .i64 s, .int .i64 t, .int .i64 f, .int .i64 l, .int .i64 p], .slice (some ⟨g, 0, none⟩) N0 c0, .int .i64 k] w fun e w' => e = .returned (.string (nodeT ws t f k)) ∧ Below w.heap.size w w' := by
  cases hin : nodI ws t f k with
  | true => exact rdnode_in g s t f l p k N0 c0 ws w hs ht hf hk hN0 hl R h64 hin
  | false => exact rdnode_leaf g s t f l p k N0 c0 ws w hs ht hf hk hN0 hl R h64 hin
theorem linesT_one (x : ByteArray) : linesT [x] = x ++ nl1 := by
  unfold linesT
  rw [List.foldl_cons, List.foldl_nil]
  congr 1
def RTr (g4 N : Nat) (L : List Int) (ws : List Int) (t f : Int) (w4 : World) (v5 v7 : Value) (wr : World) : Prop :=
  ∃ (j : Nat), v7 = .int .i64 j ∧ j ≤ N ∧ v5 = .string (linesT ((0 :: L.take j).map (nodeT ws t f))) ∧ Below g4 w4 wr
set_option maxRecDepth 100000 in
set_option maxHeartbeats 4000000 in
theorem rdtree_yes (g : Nat) (s t f l p : Int) (N0 c0 : Nat) (ws : List Int) (w : World) (hs : 1 ≤ s ∧ s ≤ 1000) (ht : 1 ≤ t ∧ t ≤ 64) (hf : 4 ≤ f ∧ f ≤ 64) (hN0 : laySize s t f = N0) (hl : ws.length = N0) (R : RefOk w g ws) (h64 : AllW64 ws) :
    Calls Tryz.prog 15 #[.agg #[.int .i64 s, .int .i64 t, .int .i64 f, .int .i64 l, .int .i64 p], .slice (some ⟨g, 0, none⟩) N0 c0] w fun e w' => e = .returned (.string (treeT ws s t f)) ∧ Below w.heap.size w w' := by
  have hsz := size_pos hs ht hf
  have hN1 : ((N0 : Int) == 0) = false := by simp; omega
  have RN := hide (fun k (hk : 0 ≤ k ∧ k ≤ s) w2 R => rdnode_yes g s t f l p k N0 c0 ws w2 hs ht hf hk hN0 hl R h64)
  have RT := hide (fun w2 R => rtree_any g s t f l p N0 c0 ws w2 hs ht hf hN0 hl R h64)
  have HIN := hide (treeL_in ws s t f (by omega))
  have HTL := hide (treeL_len ws s t f (by omega))
  have HNZ := hide (fun k => nodeT_size ws t f k h64 hf)
  have E := hide (show treeT ws s t f = linesT ((0 :: treeL ws s t f).map (nodeT ws t f)) from rfl)
  have hsN : s.toNat ≤ 1000 := by omega
  replace HTL := hide (Nat.le_trans HTL.out hsN)
  have h0s : (0 : Int) ≤ 0 ∧ (0 : Int) ≤ s := by omega
  have RN0 := hide (fun w2 R => RN.out 0 h0s w2 R)
  generalize treeT ws s t f = R0 at *
  generalize treeL ws s t f = L at *
  have HLZ := hide (fun j => linesT_size 20000 ((0 :: L.take j).map (nodeT ws t f)) (fun x hx => by
    obtain ⟨y, _, rfl⟩ := List.mem_map.1 hx
    exact HNZ.out y))
  replace HLZ := hide (fun j => Nat.le_trans (HLZ.out j) (show ((0 :: L.take j).map (nodeT ws t f)).length * (20000 + 1) ≤ 100000000 by
    have h1 := HTL.out
    have h2 : ((0 :: L.take j).map (nodeT ws t f)).length ≤ 1001 := by
      rw [List.length_map, List.length_cons, List.length_take]
      omega
    have h3 := Nat.mul_le_mul_right (20000 + 1) h2
    omega))
  have E0 := hide (show nodeT ws t f 0 ++ ⟨#[10]⟩ = linesT ((0 :: L.take 0).map (nodeT ws t f)) by rw [List.take_zero, List.map_singleton, linesT_one]; rfl)
  have hz0 := HNZ.out 0
  generalize hn0 : nodeT ws t f 0 = n0 at *
  have HN0 := hide hn0
  have B0 := (Below.refl w.heap.size w).alloc (Nat.le_refl _) (.cells #[.int .i64 s, .int .i64 t, .int .i64 f, .int .i64 l, .int .i64 p] 23)
  have bc := Blk.new w 23 #[.int .i64 s, .int .i64 t, .int .i64 f, .int .i64 l, .int .i64 p]
  replace R := (show RefOk _ g ws from Blk.alloc R (.cells #[.int .i64 s, .int .i64 t, .int .i64 f, .int .i64 l, .int .i64 p] 23))
  have mc := fun i => bc.cell i
  clear hs ht hf hN0 hl h64 hsz hsN h0s hn0
  go_enter Tryz.func15, Tryz.ntmps15
  go_wp2_with fail
  refine (RN0.out _ R).mono ?_
  rintro e w1 ⟨rfl, hb1⟩
  replace R := (show RefOk _ g ws from Blk.below R hb1 (Blk.lt R))
  replace bc := bc.below hb1 bc.lt
  replace B0 := B0.trans (hb1.mono B0.size)
  clear hb1 mc
  have mc := fun i => bc.cell i
  go_wp2_with fail
  refine (RT.out _ R).mono ?_
  rintro e w4 ⟨⟨A, c, rfl, ho⟩, hb1⟩
  have HR := hide (show RefOk _ g ws from Blk.below R hb1 (Blk.lt R))
  have HBC := hide (bc.below hb1 bc.lt)
  have HB0 := hide (B0.trans (hb1.mono B0.size))
  have HRL := hide (Reads.of_own ho)
  have Bq := Below.refl w4.heap.size w4
  have HBL := hide (show w.heap.size < w4.heap.size from HBC.out.lt)
  have HGL := hide (Blk.lt HR.out)
  generalize hg4 : w4.heap.size = g4 at *
  have HG4 := hide hg4
  clear hb1 mc bc B0 R ho hg4
  obtain ⟨N, hN⟩ : ∃ N, L.length = N := ⟨_, rfl⟩
  rw [hN] at HTL HRL ⊢
  have HN := hide hN
  clear hN
  go_wp2_with fail
  go_loopw [5, 7] (RTr g4 N L ws t f w4) (fun _ v _ => N - (intOf v).toNat)
  case atStart => exact ⟨0, rfl, by omega, congrArg Value.string E0.out, Bq⟩
  case round =>
    clear Bq
    obtain ⟨j, rfl, hj, rfl, Bq⟩ := hrel
    have hac := HLZ.out j
    have hN1000 := HTL.out
    have HJ := hide hj
    by_cases hlt : j < N
    · have hltz : (j : Int) < (N : Int) := by omega
      have bc := HBC.out.below Bq HBL.out
      have R := (show RefOk _ g ws from Blk.below HR.out Bq HGL.out)
      obtain ⟨a1, hA1, hl1, z1⟩ := (HRL.out.below Bq).word hlt
      subst hA1
      have RNk := hide (fun w2 R => RN.out L[j] (HIN.out _ (List.mem_cons_of_mem _ (List.getElem_mem hl1))) w2 R)
      have hk9 := HNZ.out L[j]
      have HSN := hide (show linesT ((0 :: L.take (j + 1)).map (nodeT ws t f)) = linesT ((0 :: L.take j).map (nodeT ws t f)) ++ nodeT ws t f L[j] ++ ⟨#[10]⟩ by
        rw [take_snoc (List.getElem?_eq_getElem hl1), ← List.cons_append, List.map_append, List.map_singleton, linesT_snoc]
        rfl)
      generalize nodeT ws t f L[j] = nx at *
      generalize L[j] = k at *
      generalize linesT ((0 :: L.take j).map (nodeT ws t f)) = acc at *
      clear hl1 hj
      go_wp2_with fail
      refine wp_region_heldZ [] (fun w' => w'.cell? ⟨w.heap.size, 0, none⟩ = some (.int .i64 s) ∧ w'.cell? ⟨w.heap.size, 1, none⟩ = some (.int .i64 t) ∧ w'.cell? ⟨w.heap.size, 2, none⟩ = some (.int .i64 f) ∧ w'.cell? ⟨w.heap.size, 3, none⟩ = some (.int .i64 l) ∧ w'.cell? ⟨w.heap.size, 4, none⟩ = some (.int .i64 p) ∧ w'.cell? (a1.add j) = some (.int .i64 k)) (by kernel_rfl) (by exact ⟨bc.cell 0, bc.cell 1, bc.cell 2, bc.cell 3, bc.cell 4, z1⟩) (fun hHeld => ?_)
      replace bc := bc.drew
      replace Bq := Bq.drew
      replace R := (show RefOk _ g ws from Blk.drew R)
      replace z1 := hHeld.2.2.2.2.2
      generalize wr.drew = wd at *
      refine' wpAnyZ_takeA (i := 0) (v := ?_) (opAt rfl) (by kernel_rfl) (by kernel_rfl) (by kernel_rfl) (by kernel_rfl) (fun _ _ _ h => h) (by assumption) (by rfl) (fun w hSw => ?_) ?_
      rotate_left
      · (try dsimp only at hSw); go_simp; (try with_reducible rfl)
      try simp only [Act.put, List.setIfInBounds_toArray, List.set_cons_zero, List.set_cons_succ]
      refine' wpAnyZ_takeA (i := 1) (v := ?_) (opAt rfl) (by kernel_rfl) (by kernel_rfl) (by kernel_rfl) (by kernel_rfl) (fun _ _ _ h => h) (by assumption) (by rfl) (fun w hSw => ?_) ?_
      rotate_left
      · (try dsimp only at hSw); go_simp; (try with_reducible rfl)
      try simp only [Act.put, List.setIfInBounds_toArray, List.set_cons_zero, List.set_cons_succ]
      refine' wpAnyZ_takeA (i := 2) (v := ?_) (opAt rfl) (by kernel_rfl) (by kernel_rfl) (by kernel_rfl) (by kernel_rfl) (fun _ _ _ h => h) (by assumption) (by rfl) (fun w hSw => ?_) ?_
      rotate_left
      · (try dsimp only at hSw); go_simp; (try with_reducible rfl)
      try simp only [Act.put, List.setIfInBounds_toArray, List.set_cons_zero, List.set_cons_succ]
      refine' wpAnyZ_takeA (i := 3) (v := ?_) (opAt rfl) (by kernel_rfl) (by kernel_rfl) (by kernel_rfl) (by kernel_rfl) (fun _ _ _ h => h) (by assumption) (by rfl) (fun w hSw => ?_) ?_
      rotate_left
      · (try dsimp only at hSw); go_simp; (try with_reducible rfl)
      try simp only [Act.put, List.setIfInBounds_toArray, List.set_cons_zero, List.set_cons_succ]
      refine' wpAnyZ_takeA (i := 4) (v := ?_) (opAt rfl) (by kernel_rfl) (by kernel_rfl) (by kernel_rfl) (by kernel_rfl) (fun _ _ _ h => h) (by assumption) (by rfl) (fun w hSw => ?_) ?_
      rotate_left
      · (try dsimp only at hSw); go_simp; (try with_reducible rfl)
      try simp only [Act.put, List.setIfInBounds_toArray, List.set_cons_zero, List.set_cons_succ]
      refine' wpAnyZ_takeA (i := 5) (v := ?_) (opAt rfl) (by kernel_rfl) (by kernel_rfl) (by kernel_rfl) (by kernel_rfl) (fun _ _ _ h => h) (by assumption) (by rfl) (fun w hSw => ?_) ?_
      rotate_left
      · (try dsimp only at hSw); go_simp; (try with_reducible rfl)
      try simp only [Act.put, List.setIfInBounds_toArray, List.set_cons_zero, List.set_cons_succ]
      refine' wpAnyZ_takeA (i := 6) (v := ?_) (opAt rfl) (by kernel_rfl) (by kernel_rfl) (by kernel_rfl) (by kernel_rfl) (fun _ _ _ h => h) (by assumption) (by rfl) (fun w hSw => ?_) ?_
      rotate_left
      · (try dsimp only at hSw); go_simp; (try with_reducible rfl)
      try simp only [Act.put, List.setIfInBounds_toArray, List.set_cons_zero, List.set_cons_succ]
      refine wpAnyZ_ready (rs := [7]) (by kernel_rfl) (by simp) ?_
      refine AllReadyZ.cons (opAt rfl) (fun K hK => ?_) ?_
      · skip
        go_simp
        refine (RNk.out _ R).mono ?_
        rintro e w7 ⟨rfl, hb1⟩
        replace bc := bc.below hb1 bc.lt
        replace z1 := keepCell hb1 z1
        replace Bq := Bq.trans (hb1.mono (by have h1 := Bq.size; have h2 := HG4.out; omega))
        clear hb1 R
        try go_wp2_with fail
        refine hK.out _ _ (by exact ⟨bc.cell 0, bc.cell 1, bc.cell 2, bc.cell 3, bc.cell 4, z1⟩) (fun hHeld => ?_)
        clear hK K
        try simp only [Act.put, List.setIfInBounds_toArray, List.set_cons_zero, List.set_cons_succ]
        refine' wpAnyZ_takeA (i := 8) (v := ?_) (opAt rfl) (by kernel_rfl) (by kernel_rfl) (by kernel_rfl) (by kernel_rfl) (fun _ _ _ h => h) (by assumption) (by rfl) (fun w hSw => ?_) ?_
        rotate_left
        · (try dsimp only at hSw); go_simp; (try rw [if_neg (by omega)]); (try with_reducible rfl)
        try simp only [Act.put, List.setIfInBounds_toArray, List.set_cons_zero, List.set_cons_succ]
        refine' wpAnyZ_takeA (i := 9) (v := ?_) (opAt rfl) (by kernel_rfl) (by kernel_rfl) (by kernel_rfl) (by kernel_rfl) (fun _ _ _ h => h) (by assumption) (by rfl) (fun w hSw => ?_) ?_
        rotate_left
        · (try dsimp only at hSw); go_simp; (try rw [if_neg (by omega)]); (try with_reducible rfl)
        try simp only [Act.put, List.setIfInBounds_toArray, List.set_cons_zero, List.set_cons_succ]
        refine' wpAnyZ_takeA (i := 10) (v := ?_) (opAt rfl) (by kernel_rfl) (by kernel_rfl) (by kernel_rfl) (by kernel_rfl) (fun _ _ _ h => h) (by assumption) (by rfl) (fun w hSw => ?_) ?_
        rotate_left
        · (try dsimp only at hSw); go_simp; (try with_reducible rfl)
        try simp only [Act.put, List.setIfInBounds_toArray, List.set_cons_zero, List.set_cons_succ]
        refine wpAnyZ_done (by kernel_rfl) ?_ _
        go_wp2_with fail
        go_roundw
        case rel => exact ⟨j + 1, by go_num, by omega, by rw [HSN.out], Bq⟩
        case measure => simp [intOf]; omega
      exact AllReadyZ.nil
    · obtain rfl : j = N := by omega
      have hE : R0 = linesT ((0 :: L.take j).map (nodeT ws t f)) := by rw [E.out, List.take_of_length_le (by rw [HN.out]; exact Nat.le_refl _)]
      have HE := hide hE
      clear hE
      generalize linesT ((0 :: L.take j).map (nodeT ws t f)) = acc at *
      go_wp2_with fail
      go_ret
      exact ⟨by rw [HE.out]; rfl, HB0.out.trans (Bq.mono (by rw [← HG4.out]; exact HB0.out.size))⟩

/-! Nothing. -/
set_option maxRecDepth 100000 in
set_option maxHeartbeats 2000000 in
theorem rdnode_none (s t f l p k : Int) (g N0 c0 : Nat) (w : World) (h : N0 = 0 ∨ (N0 ≠ 0 ∧ k < 0) ∨ (N0 ≠ 0 ∧ ¬ k < 0 ∧ s < k)) :
    Calls Tryz.prog 13 #[.agg #[.int .i64 s, .int .i64 t, .int .i64 f, .int .i64 l, .int .i64 p], .slice (some ⟨g, 0, none⟩) N0 c0, .int .i64 k] w fun e w' => e = .returned (.string ⟨#[]⟩) ∧ Below w.heap.size w w' := by
  have B0 := (Below.refl w.heap.size w).alloc (Nat.le_refl _) (.cells #[.int .i64 s, .int .i64 t, .int .i64 f, .int .i64 l, .int .i64 p] 23)
  have mc := fun i => (Blk.new w 23 #[.int .i64 s, .int .i64 t, .int .i64 f, .int .i64 l, .int .i64 p]).cell i
  rcases h with h | ⟨h, h1⟩ | ⟨h, h1, h2⟩
  · subst h
    go_enter Tryz.func13, Tryz.ntmps13
    go_wp2_with fail
    go_ret
    exact ⟨rfl, B0⟩
  · have q1 : ((N0 : Int) == 0) = false := by simp; omega
    clear h
    go_enter Tryz.func13, Tryz.ntmps13
    go_wp2_with fail
    go_ret
    exact ⟨rfl, B0⟩
  · have q1 : ((N0 : Int) == 0) = false := by simp; omega
    clear h
    go_enter Tryz.func13, Tryz.ntmps13
    go_wp2_with fail
    go_ret
    exact ⟨rfl, B0⟩
set_option maxHeartbeats 1000000 in
theorem rdtree_none (s t f l p : Int) (g c0 : Nat) (w : World) :
    Calls Tryz.prog 15 #[.agg #[.int .i64 s, .int .i64 t, .int .i64 f, .int .i64 l, .int .i64 p], .slice (some ⟨g, 0, none⟩) 0 c0] w fun e w' => e = .returned (.string ⟨#[]⟩) ∧ Below w.heap.size w w' := by
  have B0 := (Below.refl w.heap.size w).alloc (Nat.le_refl _) (.cells #[.int .i64 s, .int .i64 t, .int .i64 f, .int .i64 l, .int .i64 p] 23)
  go_enter Tryz.func15, Tryz.ntmps15
  go_wp2_with fail
  go_ret
  exact ⟨rfl, B0⟩
theorem dnode_nil (k : Int) (w : World) : Calls Tryz.prog 12 #[.pointer none, .int .i64 k] w fun e w' => e = .returned (.string ⟨#[]⟩) ∧ Below w.heap.size w w' := by
  go_enter Tryz.func12, Tryz.ntmps12
  go_wp2_with fail
  go_ret
  exact ⟨rfl, Below.refl _ _⟩
theorem dtree_nil (w : World) : Calls Tryz.prog 14 #[.pointer none] w fun e w' => e = .returned (.string ⟨#[]⟩) ∧ Below w.heap.size w w' := by
  have B0 := (Below.refl w.heap.size w).alloc (Nat.le_refl _) (.cells #[.pointer none] 27)
  have mc := (Blk.new w 27 #[.pointer none]).cell 0
  go_enter Tryz.func14, Tryz.ntmps14
  go_wp2_with fail
  go_ret
  exact ⟨rfl, B0⟩
set_option maxHeartbeats 1000000 in
theorem dnode_no (gm gw : Nat) (s t f l p k : Int) (ws : List Int) (w : World) (hs : 1 ≤ s ∧ s ≤ 1000) (ht : 1 ≤ t ∧ t ≤ 64) (hf : 4 ≤ f ∧ f ≤ 64) (hk : k < 0 ∨ s < k) (M : MemOk w gm gw s t f l p ws) :
    Calls Tryz.prog 12 #[.pointer (some ⟨gm, 0, none⟩), .int .i64 k] w fun e w' => e = .returned (.string ⟨#[]⟩) ∧ Below w.heap.size w w' := by
  have CV := hide (fun w2 => lver_any s t f l p k w2 hs ht hf)
  rw [atpB_6no hk] at CV
  obtain ⟨m0, m1, m2, m3, m4⟩ := mem5 M
  clear M hs ht hf hk
  go_enter Tryz.func12, Tryz.ntmps12
  go_wp2_with fail
  refine (CV.out _).mono ?_
  rintro e w1 ⟨rfl, hb⟩
  go_wp2_with fail
  go_ret
  exact ⟨rfl, hb⟩
end Go.Proofs.YtlnckjemfabckaaGreatDoor

/-
  DumpTrees: the walk.
-/
namespace Go.Proofs.YtlnckjemfabckaaGreatDoor
open Go.RowKit

theorem mWri_w64t {ws : List Int} {l : List (Int × Int)} (h : AllW64 ws) (hl : ∀ r ∈ l, W64 r.2) : ∀ k, AllW64 (mWri ws l k) := mWri_w64 h hl
set_option maxRecDepth 100000 in
set_option maxHeartbeats 2000000 in
theorem trees_far (s t f l p k : Int) (A : Option Addr) (n c : Nat) (w : World) (hT : Tab w) (h1 : (300 : Int) < n) :
    Calls Tryz.prog 3 #[.agg #[.int .i64 s, .int .i64 t, .int .i64 f, .int .i64 l, .int .i64 p], .slice A n c, .int .i64 k] w fun e w' => e = .returned (.bool true) ∧ Below w.heap.size w w' := by
  have AW := hide (fun w2 (h : Below w.heap.size w w2) => awake38 w2 (hT.below h))
  clear hT
  have B0 := (Below.refl w.heap.size w).alloc (Nat.le_refl _) (.cells #[.int .i64 s, .int .i64 t, .int .i64 f, .int .i64 l, .int .i64 p] 23)
  have bc := Blk.new w 23 #[.int .i64 s, .int .i64 t, .int .i64 f, .int .i64 l, .int .i64 p]
  have mc := fun i => bc.cell i
  go_enter Tryz.func3, Tryz.ntmps3
  go_wp2_with fail
  refine (AW.out _ B0).mono ?_
  rintro e w9 ⟨rfl, hb1⟩
  go_wp2_with fail
  go_ret
  exact ⟨rfl, B0.trans (hb1.mono B0.size)⟩
set_option maxRecDepth 100000 in
set_option maxHeartbeats 2000000 in
theorem trees_big (s t f l p k : Int) (A : Option Addr) (n c : Nat) (w : World) (hT : Tab w) (h1 : ¬ (300 : Int) < n) (h2 : 3000 < rSize s t f l p) :
    Calls Tryz.prog 3 #[.agg #[.int .i64 s, .int .i64 t, .int .i64 f, .int .i64 l, .int .i64 p], .slice A n c, .int .i64 k] w fun e w' => e = .returned (.bool true) ∧ Below w.heap.size w w' := by
  have AW := hide (fun w2 (h : Below w.heap.size w w2) => awake38 w2 (hT.below h))
  have SZ := hide (fun w2 => rsize_any s t f l p w2)
  generalize rSize s t f l p = z at *
  clear hT
  have B0 := (Below.refl w.heap.size w).alloc (Nat.le_refl _) (.cells #[.int .i64 s, .int .i64 t, .int .i64 f, .int .i64 l, .int .i64 p] 23)
  have bc := Blk.new w 23 #[.int .i64 s, .int .i64 t, .int .i64 f, .int .i64 l, .int .i64 p]
  have mc := fun i => bc.cell i
  go_enter Tryz.func3, Tryz.ntmps3
  go_wp2_with fail
  refine (SZ.out _).mono ?_
  rintro e w1 ⟨rfl, hb1⟩
  replace bc := bc.below hb1 bc.lt
  replace B0 := B0.trans (hb1.mono B0.size)
  clear hb1 mc
  have mc := fun i => bc.cell i
  go_wp2_with fail
  refine (AW.out _ B0).mono ?_
  rintro e w9 ⟨rfl, hb1⟩
  go_wp2_with fail
  go_ret
  exact ⟨rfl, B0.trans (hb1.mono B0.size)⟩
def TnI (gc : Nat) (s t f l p : Int) (n : Nat) (w : World) (iv : Value) (wr : World) : Prop :=
  ∃ (k : Nat), iv = .int .i64 k ∧ k ≤ n ∧ Blk wr gc 23 #[.int .i64 s, .int .i64 t, .int .i64 f, .int .i64 l, .int .i64 p] ∧ Below w.heap.size w wr
set_option maxRecDepth 100000 in
set_option maxHeartbeats 4000000 in
theorem trees_no (s t f l p k : Int) (A : Option Addr) (n c : Nat) (l0 : List (Int × Int)) (w : World) (hT : Tab w) (h1 : ¬ (300 : Int) < n) (hc : cfgOk s t f l p = false) (hr : Reads w w.heap.size 2 A n (recW l0)) :
    Calls Tryz.prog 3 #[.agg #[.int .i64 s, .int .i64 t, .int .i64 f, .int .i64 l, .int .i64 p], .slice A n c, .int .i64 k] w fun e w' => e = .returned (.bool true) ∧ Below w.heap.size w w' := by
  have AW := hide (fun w2 (h : Below w.heap.size w w2) => awake38 w2 (hT.below h))
  have SZ := hide (fun w2 => rsize_any s t f l p w2)
  rw [show rSize s t f l p = 0 by unfold rSize; rw [hc]; rfl] at SZ
  have AN := hide (fun w2 (hb : Below w.heap.size w w2) => anew10_no s t f l p w2 (hT.below hb) hc)
  have RN := hide (fun w2 => rnew10_no s t f l p w2 hc)
  have WG := hide (fun w2 => wrong_any s t f l p w2)
  have hwg : ¬ wrg s t f l p < 0 := by
    have := wrg_ok (s := s) (t := t) (f := f) (l := l) (p := p)
    rw [hc] at this
    intro h
    rw [decide_eq_true h] at this
    cases this
  generalize wrg s t f l p = wg at *
  have DO := hide (fun g a x w2 => rdo_out g 0 2 a 0 x 0 w2 (by omega))
  have WR := hide (fun w2 (hr2 : Reads w2 w2.heap.size 2 A n (recW l0)) => write_none (.pointer none) A n c l0 w2 hr2 (fun _ => .inl rfl) (by omega))
  have HR := hide hr
  have hn3 : n ≤ 300 := by omega
  clear hT hc hr
  have B0 := (Below.refl w.heap.size w).alloc (Nat.le_refl _) (.cells #[.int .i64 s, .int .i64 t, .int .i64 f, .int .i64 l, .int .i64 p] 23)
  have bc := Blk.new w 23 #[.int .i64 s, .int .i64 t, .int .i64 f, .int .i64 l, .int .i64 p]
  have mc := fun i => bc.cell i
  go_enter Tryz.func3, Tryz.ntmps3
  go_wp2_with fail
  refine (SZ.out _).mono ?_
  rintro e w1 ⟨rfl, hb1⟩
  replace bc := bc.below hb1 bc.lt
  replace B0 := B0.trans (hb1.mono B0.size)
  clear hb1 mc
  have mc := fun i => bc.cell i
  go_wp2_with fail
  refine (AN.out _ B0).mono ?_
  rintro e w2 ⟨rfl, hb1⟩
  replace bc := bc.below hb1 bc.lt
  replace B0 := B0.trans (hb1.mono B0.size)
  clear hb1 mc
  have mc := fun i => bc.cell i
  go_wp2_with fail
  refine (RN.out _).mono ?_
  rintro e w3 ⟨⟨g, rfl, _⟩, hb1⟩
  replace bc := bc.below hb1 bc.lt
  replace B0 := B0.trans (hb1.mono B0.size)
  clear hb1 mc
  have mc := fun i => bc.cell i
  go_wp2_with fail
  refine (WR.out _ ((HR.out.below B0).more B0.size)).mono ?_
  rintro e w4 ⟨⟨v4, rfl⟩, hb1⟩
  replace bc := bc.below hb1 bc.lt
  replace B0 := B0.trans (hb1.mono B0.size)
  clear hb1 mc
  have mc := fun i => bc.cell i
  clear mc
  go_wp2_with fail
  obtain ⟨gc, hgc⟩ : ∃ gc, gc = w.heap.size := ⟨_, rfl⟩
  rw [← hgc] at bc ⊢
  have HGC := hide hgc
  clear hgc
  go_loopw [9] (TnI gc s t f l p n w) (fun i _ => n - (intOf i).toNat)
  case atStart => exact ⟨0, rfl, Nat.zero_le _, bc, B0⟩
  case round =>
    clear bc B0
    obtain ⟨j, rfl, hj, bc, B0⟩ := hrel
    by_cases hlt : j < n
    · obtain ⟨a, rfl, hab, hjl, z1, z2⟩ := (HR.out.below B0).wri hlt
      generalize l0[j] = rj at *
      obtain ⟨x1, x2⟩ := rj
      dsimp only at z1 z2
      have Dk := hide (DO.out g x1 x2)
      have hlt2 : (j : Int) < (n : Int) := by omega
      have hj3 : (j : Int) ≤ 300 := by omega
      clear hab hjl
      go_wp2_with fail
      refine wp_region_heldZ [12] (fun w' => w'.cell? (a.add (j * 2)) = some (.int .i64 x1) ∧ w'.cell? ⟨(a.add (j * 2)).block, (a.add (j * 2)).off + 1, none⟩ = some (.int .u64 x2)) (by kernel_rfl) (by exact ⟨z1, z2⟩) (fun hHeld => ?_)
      replace bc := bc.drew
      replace B0 := B0.drew
      generalize wr.drew = wd at *
      refine' wpAnyZ_takeA (i := 0) (v := ?_) (opAt rfl) (by kernel_rfl) (by kernel_rfl) (by kernel_rfl) (by kernel_rfl) (fun _ _ _ h => h) (by assumption) (by rfl) (fun w hSw => ?_) ?_
      rotate_left
      · (try dsimp only at hSw); go_simp; (try with_reducible rfl)
      try simp only [Act.put, List.setIfInBounds_toArray, List.set_cons_zero, List.set_cons_succ]
      refine' wpAnyZ_takeA (i := 1) (v := ?_) (opAt rfl) (by kernel_rfl) (by kernel_rfl) (by kernel_rfl) (by kernel_rfl) (fun _ _ _ h => h) (by assumption) (by rfl) (fun w hSw => ?_) ?_
      rotate_left
      · (try dsimp only at hSw); go_simp; (try with_reducible rfl)
      try simp only [Act.put, List.setIfInBounds_toArray, List.set_cons_zero, List.set_cons_succ]
      refine' wpAnyZ_takeA (i := 2) (v := ?_) (opAt rfl) (by kernel_rfl) (by kernel_rfl) (by kernel_rfl) (by kernel_rfl) (fun _ _ _ h => h) (by assumption) (by rfl) (fun w hSw => ?_) ?_
      rotate_left
      · (try dsimp only at hSw); go_simp; (try with_reducible rfl)
      try simp only [Act.put, List.setIfInBounds_toArray, List.set_cons_zero, List.set_cons_succ]
      refine' wpAnyZ_takeA (i := 3) (v := ?_) (opAt rfl) (by kernel_rfl) (by kernel_rfl) (by kernel_rfl) (by kernel_rfl) (fun _ _ _ h => h) (by assumption) (by rfl) (fun w hSw => ?_) ?_
      rotate_left
      · (try dsimp only at hSw); go_simp; (try with_reducible rfl)
      try simp only [Act.put, List.setIfInBounds_toArray, List.set_cons_zero, List.set_cons_succ]
      refine' wpAnyZ_takeA (i := 4) (v := ?_) (opAt rfl) (by kernel_rfl) (by kernel_rfl) (by kernel_rfl) (by kernel_rfl) (fun _ _ _ h => h) (by assumption) (by rfl) (fun w hSw => ?_) ?_
      rotate_left
      · (try dsimp only at hSw); go_simp; (try with_reducible rfl)
      try simp only [Act.put, List.setIfInBounds_toArray, List.set_cons_zero, List.set_cons_succ]
      refine' wpAnyZ_takeA (i := 5) (v := ?_) (opAt rfl) (by kernel_rfl) (by kernel_rfl) (by kernel_rfl) (by kernel_rfl) (fun _ _ _ h => h) (by assumption) (by rfl) (fun w hSw => ?_) ?_
      rotate_left
      · (try dsimp only at hSw); go_simp; (try with_reducible rfl)
      try simp only [Act.put, List.setIfInBounds_toArray, List.set_cons_zero, List.set_cons_succ]
      refine' wpAnyZ_takeA (i := 6) (v := ?_) (opAt rfl) (by kernel_rfl) (by kernel_rfl) (by kernel_rfl) (by kernel_rfl) (fun _ _ _ h => h) (by assumption) (by rfl) (fun w hSw => ?_) ?_
      rotate_left
      · (try dsimp only at hSw); go_simp; (try with_reducible rfl)
      try simp only [Act.put, List.setIfInBounds_toArray, List.set_cons_zero, List.set_cons_succ]
      refine' wpAnyZ_takeA (i := 7) (v := ?_) (opAt rfl) (by kernel_rfl) (by kernel_rfl) (by kernel_rfl) (by kernel_rfl) (fun _ _ _ h => h) (by assumption) (by rfl) (fun w hSw => ?_) ?_
      rotate_left
      · (try dsimp only at hSw); go_simp; (try with_reducible rfl)
      try simp only [Act.put, List.setIfInBounds_toArray, List.set_cons_zero, List.set_cons_succ]
      refine' wpAnyZ_takeA (i := 8) (v := ?_) (opAt rfl) (by kernel_rfl) (by kernel_rfl) (by kernel_rfl) (by kernel_rfl) (fun _ _ _ h => h) (by assumption) (by rfl) (fun w hSw => ?_) ?_
      rotate_left
      · (try dsimp only at hSw); go_simp; (try with_reducible rfl)
      try simp only [Act.put, List.setIfInBounds_toArray, List.set_cons_zero, List.set_cons_succ]
      refine' wpAnyZ_takeA (i := 9) (v := ?_) (opAt rfl) (by kernel_rfl) (by kernel_rfl) (by kernel_rfl) (by kernel_rfl) (fun _ _ _ h => h) (by assumption) (by rfl) (fun w hSw => ?_) ?_
      rotate_left
      · (try dsimp only at hSw); go_simp; (try with_reducible rfl)
      try simp only [Act.put, List.setIfInBounds_toArray, List.set_cons_zero, List.set_cons_succ]
      refine' wpAnyZ_takeA (i := 10) (v := ?_) (opAt rfl) (by kernel_rfl) (by kernel_rfl) (by kernel_rfl) (by kernel_rfl) (fun _ _ _ h => h) (by assumption) (by rfl) (fun w hSw => ?_) ?_
      rotate_left
      · (try dsimp only at hSw); go_simp; (try with_reducible rfl)
      try simp only [Act.put, List.setIfInBounds_toArray, List.set_cons_zero, List.set_cons_succ]
      refine' wpAnyZ_takeA (i := 11) (v := ?_) (opAt rfl) (by kernel_rfl) (by kernel_rfl) (by kernel_rfl) (by kernel_rfl) (fun _ _ _ h => h) (by assumption) (by rfl) (fun w hSw => ?_) ?_
      rotate_left
      · (try dsimp only at hSw); go_simp; (try with_reducible rfl)
      try simp only [Act.put, List.setIfInBounds_toArray, List.set_cons_zero, List.set_cons_succ]
      refine wpAnyZ_ready (rs := [12]) (by kernel_rfl) (by simp) ?_
      refine AllReadyZ.last (opAt rfl) (by kernel_rfl) (fun K hK => ?_) ?_
      · skip
        go_simp
        refine (Dk.out _).mono ?_
        rintro e w8 ⟨rfl, hb1⟩
        replace bc := bc.below hb1 bc.lt
        replace B0 := B0.trans (hb1.mono B0.size)
        clear hb1
        try go_wp2_with fail
        refine hK.out _ _ ?_
        clear hK K
        try simp only [Act.put, List.setIfInBounds_toArray, List.set_cons_zero, List.set_cons_succ]
        refine wpAnyZ_done (by kernel_rfl) ?_ _
        go_wp2_with fail
        go_roundw
        case measure => simp [intOf]; omega
        case rel => exact ⟨j + 1, by go_num, by omega, bc, B0⟩
      exact AllReadyZ.nil
    · have hjn : j = n := by omega
      have hlt2 : ¬ (j : Int) < (n : Int) := by omega
      subst hjn
      clear hlt DO hj
      rw [HGC.out] at bc ⊢
      have mc := fun i => bc.cell i
      go_wp2_with fail
      refine (WG.out _).mono ?_
      rintro e w5 ⟨rfl, hb1⟩
      replace bc := bc.below hb1 bc.lt
      replace B0 := B0.trans (hb1.mono B0.size)
      clear hb1 mc
      have mc := fun i => bc.cell i
      have ND := hide (fun w2 => dnode_nil k w2)
      have NR := hide (fun w2 => rdnode_none s t f l p k g 0 0 w2 (.inl rfl))
      have TR := hide (fun w2 => dtree_nil w2)
      have RT := hide (fun w2 => rdtree_none s t f l p g 0 w2)
      clear mc
      go_wp2_with fail
      refine wp_region_heldZ [] (fun w' => w'.cell? ⟨w.heap.size, 0, none⟩ = some (.int .i64 s) ∧ w'.cell? ⟨w.heap.size, 1, none⟩ = some (.int .i64 t) ∧ w'.cell? ⟨w.heap.size, 2, none⟩ = some (.int .i64 f) ∧ w'.cell? ⟨w.heap.size, 3, none⟩ = some (.int .i64 l) ∧ w'.cell? ⟨w.heap.size, 4, none⟩ = some (.int .i64 p)) (by kernel_rfl) (by exact ⟨bc.cell 0, bc.cell 1, bc.cell 2, bc.cell 3, bc.cell 4⟩) (fun hHeld => ?_)
      replace bc := bc.drew
      replace B0 := B0.drew
      generalize w5.drew = wx at *
      refine' wpAnyZ_takeA (i := 0) (v := ?_) (opAt rfl) (by kernel_rfl) (by kernel_rfl) (by kernel_rfl) (by kernel_rfl) (fun _ _ _ h => h) (by assumption) (by rfl) (fun w hSw => ?_) ?_
      rotate_left
      · (try dsimp only at hSw); go_simp; (try with_reducible rfl)
      try simp only [Act.put, List.setIfInBounds_toArray, List.set_cons_zero, List.set_cons_succ]
      refine' wpAnyZ_takeA (i := 1) (v := ?_) (opAt rfl) (by kernel_rfl) (by kernel_rfl) (by kernel_rfl) (by kernel_rfl) (fun _ _ _ h => h) (by assumption) (by rfl) (fun w hSw => ?_) ?_
      rotate_left
      · (try dsimp only at hSw); go_simp; (try with_reducible rfl)
      try simp only [Act.put, List.setIfInBounds_toArray, List.set_cons_zero, List.set_cons_succ]
      refine' wpAnyZ_takeA (i := 3) (v := ?_) (opAt rfl) (by kernel_rfl) (by kernel_rfl) (by kernel_rfl) (by kernel_rfl) (fun _ _ _ h => h) (by assumption) (by rfl) (fun w hSw => ?_) ?_
      rotate_left
      · (try dsimp only at hSw); go_simp; (try with_reducible rfl)
      try simp only [Act.put, List.setIfInBounds_toArray, List.set_cons_zero, List.set_cons_succ]
      refine' wpAnyZ_takeA (i := 4) (v := ?_) (opAt rfl) (by kernel_rfl) (by kernel_rfl) (by kernel_rfl) (by kernel_rfl) (fun _ _ _ h => h) (by assumption) (by rfl) (fun w hSw => ?_) ?_
      rotate_left
      · (try dsimp only at hSw); go_simp; (try with_reducible rfl)
      try simp only [Act.put, List.setIfInBounds_toArray, List.set_cons_zero, List.set_cons_succ]
      refine' wpAnyZ_takeA (i := 5) (v := ?_) (opAt rfl) (by kernel_rfl) (by kernel_rfl) (by kernel_rfl) (by kernel_rfl) (fun _ _ _ h => h) (by assumption) (by rfl) (fun w hSw => ?_) ?_
      rotate_left
      · (try dsimp only at hSw); go_simp; (try with_reducible rfl)
      try simp only [Act.put, List.setIfInBounds_toArray, List.set_cons_zero, List.set_cons_succ]
      refine wpAnyZ_ready (rs := [2]) (by kernel_rfl) (by simp) ?_
      refine AllReadyZ.cons (opAt rfl) (fun K hK => ?_) ?_
      · skip
        go_simp
        refine (ND.out _).mono ?_
        rintro e wa ⟨rfl, hb1⟩
        replace bc := bc.below hb1 bc.lt
        replace B0 := B0.trans (hb1.mono B0.size)
        clear hb1
        try go_wp2_with fail
        refine hK.out _ _ (by exact ⟨bc.cell 0, bc.cell 1, bc.cell 2, bc.cell 3, bc.cell 4⟩) (fun hHeld => ?_)
        clear hK K
        try simp only [Act.put, List.setIfInBounds_toArray, List.set_cons_zero, List.set_cons_succ]
        refine wpAnyZ_ready (rs := [6]) (by kernel_rfl) (by simp) ?_
        refine AllReadyZ.cons (opAt rfl) (fun K hK => ?_) ?_
        · skip
          go_simp
          refine (NR.out _).mono ?_
          rintro e wb ⟨rfl, hb1⟩
          replace bc := bc.below hb1 bc.lt
          replace B0 := B0.trans (hb1.mono B0.size)
          clear hb1
          try go_wp2_with fail
          refine hK.out _ _ (by exact ⟨bc.cell 0, bc.cell 1, bc.cell 2, bc.cell 3, bc.cell 4⟩) (fun hHeld => ?_)
          clear hK K
          try simp only [Act.put, List.setIfInBounds_toArray, List.set_cons_zero, List.set_cons_succ]
          refine' wpAnyZ_takeA (i := 7) (v := ?_) (opAt rfl) (by kernel_rfl) (by kernel_rfl) (by kernel_rfl) (by kernel_rfl) (fun _ _ _ h => h) (by assumption) (by rfl) (fun w hSw => ?_) ?_
          rotate_left
          · (try dsimp only at hSw); go_simp; (try with_reducible rfl)
          try simp only [Act.put, List.setIfInBounds_toArray, List.set_cons_zero, List.set_cons_succ]
          refine' wpAnyZ_takeA (i := 8) (v := ?_) (opAt rfl) (by kernel_rfl) (by kernel_rfl) (by kernel_rfl) (by kernel_rfl) (fun _ _ _ h => h) (by assumption) (by rfl) (fun w hSw => ?_) ?_
          rotate_left
          · (try dsimp only at hSw); go_simp; (try with_reducible rfl)
          try simp only [Act.put, List.setIfInBounds_toArray, List.set_cons_zero, List.set_cons_succ]
          refine' wpAnyZ_takeA (i := 9) (v := ?_) (opAt rfl) (by kernel_rfl) (by kernel_rfl) (by kernel_rfl) (by kernel_rfl) (fun _ _ _ h => h) (by assumption) (by rfl) (fun w hSw => ?_) ?_
          rotate_left
          · (try dsimp only at hSw); go_simp; (try with_reducible rfl)
          try simp only [Act.put, List.setIfInBounds_toArray, List.set_cons_zero, List.set_cons_succ]
          refine' wpAnyZ_takeA (i := 11) (v := ?_) (opAt rfl) (by kernel_rfl) (by kernel_rfl) (by kernel_rfl) (by kernel_rfl) (fun _ _ _ h => h) (by assumption) (by rfl) (fun w hSw => ?_) ?_
          rotate_left
          · (try dsimp only at hSw); go_simp; (try with_reducible rfl)
          try simp only [Act.put, List.setIfInBounds_toArray, List.set_cons_zero, List.set_cons_succ]
          refine' wpAnyZ_takeA (i := 12) (v := ?_) (opAt rfl) (by kernel_rfl) (by kernel_rfl) (by kernel_rfl) (by kernel_rfl) (fun _ _ _ h => h) (by assumption) (by rfl) (fun w hSw => ?_) ?_
          rotate_left
          · (try dsimp only at hSw); go_simp; (try with_reducible rfl)
          try simp only [Act.put, List.setIfInBounds_toArray, List.set_cons_zero, List.set_cons_succ]
          refine wpAnyZ_ready (rs := [10]) (by kernel_rfl) (by simp) ?_
          refine AllReadyZ.cons (opAt rfl) (fun K hK => ?_) ?_
          · skip
            go_simp
            refine (TR.out _).mono ?_
            rintro e wc ⟨rfl, hb1⟩
            replace bc := bc.below hb1 bc.lt
            replace B0 := B0.trans (hb1.mono B0.size)
            clear hb1
            try go_wp2_with fail
            refine hK.out _ _ (by exact ⟨bc.cell 0, bc.cell 1, bc.cell 2, bc.cell 3, bc.cell 4⟩) (fun hHeld => ?_)
            clear hK K
            try simp only [Act.put, List.setIfInBounds_toArray, List.set_cons_zero, List.set_cons_succ]
            refine wpAnyZ_ready (rs := [13]) (by kernel_rfl) (by simp) ?_
            refine AllReadyZ.cons (opAt rfl) (fun K hK => ?_) ?_
            · skip
              go_simp
              refine (RT.out _).mono ?_
              rintro e wd ⟨rfl, hb1⟩
              replace bc := bc.below hb1 bc.lt
              replace B0 := B0.trans (hb1.mono B0.size)
              clear hb1
              try go_wp2_with fail
              refine hK.out _ _ (by exact ⟨bc.cell 0, bc.cell 1, bc.cell 2, bc.cell 3, bc.cell 4⟩) (fun hHeld => ?_)
              clear hK K
              try simp only [Act.put, List.setIfInBounds_toArray, List.set_cons_zero, List.set_cons_succ]
              refine' wpAnyZ_takeA (i := 14) (v := ?_) (opAt rfl) (by kernel_rfl) (by kernel_rfl) (by kernel_rfl) (by kernel_rfl) (fun _ _ _ h => h) (by assumption) (by rfl) (fun w hSw => ?_) ?_
              rotate_left
              · (try dsimp only at hSw); go_simp; (try with_reducible rfl)
              try simp only [Act.put, List.setIfInBounds_toArray, List.set_cons_zero, List.set_cons_succ]
              refine' wpAnyZ_takeA (i := 15) (v := ?_) (opAt rfl) (by kernel_rfl) (by kernel_rfl) (by kernel_rfl) (by kernel_rfl) (fun _ _ _ h => h) (by assumption) (by rfl) (fun w hSw => ?_) ?_
              rotate_left
              · (try dsimp only at hSw); go_simp; (try with_reducible rfl)
              try simp only [Act.put, List.setIfInBounds_toArray, List.set_cons_zero, List.set_cons_succ]
              refine' wpAnyZ_takeA (i := 16) (v := ?_) (opAt rfl) (by kernel_rfl) (by kernel_rfl) (by kernel_rfl) (by kernel_rfl) (fun _ _ _ h => h) (by assumption) (by rfl) (fun w hSw => ?_) ?_
              rotate_left
              · (try dsimp only at hSw); go_simp; (try with_reducible rfl)
              try simp only [Act.put, List.setIfInBounds_toArray, List.set_cons_zero, List.set_cons_succ]
              refine wpAnyZ_ready (rs := [17]) (by kernel_rfl) (by simp) ?_
              refine AllReadyZ.cons (opAt rfl) (fun K hK => ?_) ?_
              · skip
                go_simp
                refine (AW.out _ B0).mono ?_
                rintro e we ⟨rfl, hb1⟩
                replace bc := bc.below hb1 bc.lt
                replace B0 := B0.trans (hb1.mono B0.size)
                clear hb1
                try go_wp2_with fail
                refine hK.out _ _ (by exact ⟨bc.cell 0, bc.cell 1, bc.cell 2, bc.cell 3, bc.cell 4⟩) (fun hHeld => ?_)
                clear hK K
                try simp only [Act.put, List.setIfInBounds_toArray, List.set_cons_zero, List.set_cons_succ]
                refine' wpAnyZ_takeA (i := 18) (v := ?_) (opAt rfl) (by kernel_rfl) (by kernel_rfl) (by kernel_rfl) (by kernel_rfl) (fun _ _ _ h => h) (by assumption) (by rfl) (fun w hSw => ?_) ?_
                rotate_left
                · (try dsimp only at hSw); go_simp; (try with_reducible rfl)
                try simp only [Act.put, List.setIfInBounds_toArray, List.set_cons_zero, List.set_cons_succ]
                refine' wpAnyZ_takeA (i := 19) (v := ?_) (opAt rfl) (by kernel_rfl) (by kernel_rfl) (by kernel_rfl) (by kernel_rfl) (fun _ _ _ h => h) (by assumption) (by rfl) (fun w hSw => ?_) ?_
                rotate_left
                · (try dsimp only at hSw); go_simp; (try with_reducible rfl)
                try simp only [Act.put, List.setIfInBounds_toArray, List.set_cons_zero, List.set_cons_succ]
                refine wpAnyZ_done (by kernel_rfl) ?_ _
                go_wp2_with fail
                go_ret
                exact ⟨rfl, B0⟩
              exact AllReadyZ.nil
            exact AllReadyZ.nil
          exact AllReadyZ.nil
        exact AllReadyZ.nil
      exact AllReadyZ.nil
def TlI2 (gm gw g gc : Nat) (s t f l p : Int) (ws0 : List Int) (l0 : List (Int × Int)) (n : Nat) (w : World) (iv : Value) (wr : World) : Prop :=
  ∃ (k : Nat), iv = .int .i64 k ∧ k ≤ n ∧ MemOk wr gm gw s t f l p (mWri ws0 l0 n) ∧ RefOk wr g (mWri ws0 l0 k) ∧ Blk wr gc 23 #[.int .i64 s, .int .i64 t, .int .i64 f, .int .i64 l, .int .i64 p] ∧ Below w.heap.size w wr
set_option maxRecDepth 100000 in
set_option maxHeartbeats 8000000 in
theorem trees_yes (s t f l p k : Int) (A : Option Addr) (n c : Nat) (l0 : List (Int × Int)) (w : World) (hT : Tab w) (h1 : ¬ (300 : Int) < n) (hc : cfgOk s t f l p = true) (h2 : laySize s t f ≤ 3000) (hr : Reads w w.heap.size 2 A n (recW l0)) (hw : ∀ r ∈ l0, W64 r.2) :
    Calls Tryz.prog 3 #[.agg #[.int .i64 s, .int .i64 t, .int .i64 f, .int .i64 l, .int .i64 p], .slice A n c, .int .i64 k] w fun e w' => e = .returned (.bool true) ∧ Below w.heap.size w w' := by
  have hb := cfgOk_iff.1 hc
  have hs : 1 ≤ s ∧ s ≤ 1000 := by omega
  have ht : 1 ≤ t ∧ t ≤ 64 := by omega
  have hf : 4 ≤ f ∧ f ≤ 64 := by omega
  have hsp := size_pos hs ht hf
  obtain ⟨N, hN⟩ : ∃ N : Nat, laySize s t f = N := Int.eq_ofNat_of_zero_le (by omega)
  have SZ := hide (fun w2 => rsize_any s t f l p w2)
  rw [show rSize s t f l p = N by unfold rSize; rw [if_pos hc]; exact hN] at SZ
  have AW := hide (fun w2 (hb : Below w.heap.size w w2) => awake38 w2 (hT.below hb))
  have AN := hide (fun w2 (hb : Below w.heap.size w w2) => anew10_yes s t f l p N w2 (hT.below hb) hc hN)
  have RN := hide (fun w2 => rnew10_any s t f l p N w2 hc hN)
  have hlen : (begL s t f).length = N := by rw [begL_len, hN]; rfl
  obtain ⟨ws, hws⟩ : ∃ ws, mWri (begL s t f) l0 n = ws := ⟨_, rfl⟩
  have hlw : ws.length = N := by rw [← hws, mWri_len]; exact hlen
  have h64 : AllW64 ws := by rw [← hws]; exact mWri_w64 (begL_w64 hs.2) hw n
  have hl0 := hr.lenWri
  have WR := hide (fun gm gw w2 (M : MemOk w2 gm gw s t f l p (begL s t f)) (hr2 : Reads w2 w2.heap.size 2 A n (recW l0)) (hne : 0 < n → ∀ ad, A = some ad → ad.block ≠ gw) => write_any gm gw s t f l p A n c (begL s t f) l0 w2 M hr2 hne (by omega))
  rw [hws] at WR
  have DO := hide (fun g (ws9 : List Int) (h9 : ws9.length = N) c9 a n9 w2 (R : RefOk w2 g ws9) => (by have h := rdo_any g c9 2 a 0 n9 ws9 w2 R; rw [mDo_two, h9] at h; exact h : Calls Tryz.prog 10 #[.slice (some ⟨g, 0, none⟩) N c9, .agg #[.int .i64 2, .int .i64 a, .int .u64 0, .int .u64 n9]] w2 fun e w' => e = .returned (.int .u64 (mDo ws9 2 a 0 n9).1) ∧ RefOk w' g (wPut ws9 a n9) ∧ w2.grownBy w' (some g)))
  have WG := hide (fun w2 => wrong_any s t f l p w2)
  have hwg : wrg s t f l p < 0 := by
    have := wrg_ok (s := s) (t := t) (f := f) (l := l) (p := p)
    rw [hc] at this
    exact of_decide_eq_true this.symm
  generalize wrg s t f l p = wg at *
  have HN : ∃ X : ByteArray, (∀ gm gw w2, MemOk w2 gm gw s t f l p ws → Calls Tryz.prog 12 #[.pointer (some ⟨gm, 0, none⟩), .int .i64 k] w2 fun e w' => e = .returned (.string X) ∧ Below w2.heap.size w2 w') ∧ (∀ g c9 w2, RefOk w2 g ws → Calls Tryz.prog 13 #[.agg #[.int .i64 s, .int .i64 t, .int .i64 f, .int .i64 l, .int .i64 p], .slice (some ⟨g, 0, none⟩) N c9, .int .i64 k] w2 fun e w' => e = .returned (.string X) ∧ Below w2.heap.size w2 w') := by
    by_cases hk : 0 ≤ k ∧ k ≤ s
    · exact ⟨_, fun gm gw w2 M => dnode_yes gm gw s t f l p k ws w2 hs ht hf hk M h64, fun g c9 w2 R => rdnode_yes g s t f l p k N c9 ws w2 hs ht hf hk hN hlw R h64⟩
    · exact ⟨_, fun gm gw w2 M => dnode_no gm gw s t f l p k ws w2 hs ht hf (by omega) M, fun g c9 w2 R => rdnode_none s t f l p k g N c9 w2 (by omega)⟩
  obtain ⟨X, HN1, HN2⟩ := HN
  have ND := hide HN1
  have NR := hide HN2
  have TR := hide (fun gm gw w2 (M : MemOk w2 gm gw s t f l p ws) => dtree_yes gm gw s t f l p ws w2 hs ht hf M h64)
  have RT := hide (fun g c9 w2 (R : RefOk w2 g ws) => rdtree_yes g s t f l p N c9 ws w2 hs ht hf hN hlw R h64)
  generalize treeT ws s t f = Y at *
  have hN1 : ((N : Int) == 0) = false := by simp; omega
  have hN2 : ¬ (3000 : Int) < (N : Int) := by omega
  have HWS := hide hws
  have HLN := hide hlen
  have HNN := hide hN
  have HR := hide hr
  have HL0 := hide hl0
  have hn3 : n ≤ 300 := by omega
  clear hT hc hb hs ht hf hsp hlen h64 h2 hN hws hlw hr hw hl0 HN1 HN2
  generalize hbl : begL s t f = bl at *
  clear hbl
  have B0 := (Below.refl w.heap.size w).alloc (Nat.le_refl _) (.cells #[.int .i64 s, .int .i64 t, .int .i64 f, .int .i64 l, .int .i64 p] 23)
  have bc := Blk.new w 23 #[.int .i64 s, .int .i64 t, .int .i64 f, .int .i64 l, .int .i64 p]
  have mc := fun i => bc.cell i
  go_enter Tryz.func3, Tryz.ntmps3
  go_wp2_with fail
  refine (SZ.out _).mono ?_
  rintro e w1 ⟨rfl, hb1⟩
  replace bc := bc.below hb1 bc.lt
  replace B0 := B0.trans (hb1.mono B0.size)
  clear hb1 mc
  have mc := fun i => bc.cell i
  go_wp2_with fail
  have hsA := bc.lt
  refine (AN.out _ B0).mono ?_
  rintro e w2 ⟨⟨gm, gw, rfl, M, hgm, hgw⟩, hb1⟩
  replace bc := bc.below hb1 bc.lt
  replace B0 := B0.trans (hb1.mono B0.size)
  clear hb1 mc
  have mc := fun i => bc.cell i
  go_wp2_with fail
  have hsB := bc.lt
  have hgmlt := Blk.lt M.1
  have hgwlt := Blk.lt M.2.1
  refine (RN.out _).mono ?_
  rintro e w3 ⟨⟨g, rfl, R, hg⟩, hb1⟩
  replace M := M.below hb1
  replace bc := bc.below hb1 bc.lt
  replace B0 := B0.trans (hb1.mono B0.size)
  clear hb1 mc
  have mc := fun i => bc.cell i
  have HGN := hide (show g ≠ gm ∧ g ≠ gw ∧ w.heap.size < g ∧ w.heap.size < gw from ⟨by omega, by omega, by omega, by omega⟩)
  clear hsA hsB hgmlt hgwlt hg hgm hgw
  go_wp2_with fail
  refine (WR.out _ _ _ M ((HR.out.below B0).more B0.size) (fun hn ad had e9 => by
    obtain ⟨a9, h9, h8, _⟩ := HR.out.2 hn
    rw [had] at h9
    injection h9 with h9
    subst h9
    have := HGN.out
    omega)).mono ?_
  rintro e w4 ⟨⟨v4, rfl⟩, M, hg4⟩
  replace B0 := below_grown B0 hg4 (by have := HGN.out; omega) B0.size
  replace bc := bc.grown hg4 (fun e => by injection e with e; have := HGN.out; omega)
  replace R := R.grown hg4 (fun e => by injection e with e; exact HGN.out.2.1 e)
  clear hg4 mc
  go_wp2_with fail
  obtain ⟨gc, hgc⟩ : ∃ gc, gc = w.heap.size := ⟨_, rfl⟩
  rw [← hgc] at bc ⊢
  have HGC := hide hgc
  clear hgc
  go_loopw [9] (TlI2 gm gw g gc s t f l p bl l0 n w) (fun i _ => n - (intOf i).toNat)
  case atStart => exact ⟨0, rfl, Nat.zero_le _, by rw [HWS.out]; exact M, R, bc, B0⟩
  case round =>
    clear M R bc B0
    obtain ⟨j, rfl, hj, M, R, bc, B0⟩ := hrel
    by_cases hlt : j < n
    · obtain ⟨a, rfl, hab, hjl, z1, z2⟩ := (HR.out.below B0).wri hlt
      have HAB := hide hab
      have Dk := hide (fun w2 R2 => DO.out g (mWri bl l0 j) (by rw [mWri_len]; exact HLN.out) N l0[j].1 l0[j].2 w2 R2)
      have HMW := hide (show mWri bl l0 (j + 1) = wPut (mWri bl l0 j) l0[j].1 l0[j].2 from by
        show wPut (mWri bl l0 j) (l0.getD j (0, 0)).1 (l0.getD j (0, 0)).2 = _
        rw [show l0.getD j (0, 0) = l0[j] by simp [List.getD, hjl]])
      generalize l0[j] = rj at *
      obtain ⟨x1, x2⟩ := rj
      dsimp only at z1 z2 Dk HMW
      rw [← HMW.out] at Dk
      obtain ⟨m2, hm2⟩ : ∃ m2, m2 = mWri bl l0 (j + 1) := ⟨_, rfl⟩
      rw [← hm2] at Dk
      have HM2 := hide hm2
      clear hm2
      generalize mWri bl l0 j = m1 at *
      have hlt2 : (j : Int) < (n : Int) := by omega
      have hj3 : (j : Int) ≤ 300 := by omega
      have HZ := hide (And.intro z1 z2)
      clear z1 z2 hab
      have z1 := HZ.out.1
      have z2 := HZ.out.2
      go_wp2_with fail
      refine wp_region_heldZ [12] (fun w' => w'.cell? (a.add (j * 2)) = some (.int .i64 x1) ∧ w'.cell? ⟨(a.add (j * 2)).block, (a.add (j * 2)).off + 1, none⟩ = some (.int .u64 x2)) (by kernel_rfl) (by exact ⟨z1, z2⟩) (fun hHeld => ?_)
      replace M := M.drew
      replace R := (show RefOk _ g _ from Blk.drew R)
      replace bc := bc.drew
      replace B0 := B0.drew
      generalize wr.drew = wd at *
      refine' wpAnyZ_takeA (i := 0) (v := ?_) (opAt rfl) (by kernel_rfl) (by kernel_rfl) (by kernel_rfl) (by kernel_rfl) (fun _ _ _ h => h) (by assumption) (by rfl) (fun w hSw => ?_) ?_
      rotate_left
      · (try dsimp only at hSw); go_simp; (try with_reducible rfl)
      try simp only [Act.put, List.setIfInBounds_toArray, List.set_cons_zero, List.set_cons_succ]
      refine' wpAnyZ_takeA (i := 1) (v := ?_) (opAt rfl) (by kernel_rfl) (by kernel_rfl) (by kernel_rfl) (by kernel_rfl) (fun _ _ _ h => h) (by assumption) (by rfl) (fun w hSw => ?_) ?_
      rotate_left
      · (try dsimp only at hSw); go_simp; (try with_reducible rfl)
      try simp only [Act.put, List.setIfInBounds_toArray, List.set_cons_zero, List.set_cons_succ]
      refine' wpAnyZ_takeA (i := 2) (v := ?_) (opAt rfl) (by kernel_rfl) (by kernel_rfl) (by kernel_rfl) (by kernel_rfl) (fun _ _ _ h => h) (by assumption) (by rfl) (fun w hSw => ?_) ?_
      rotate_left
      · (try dsimp only at hSw); go_simp; (try with_reducible rfl)
      try simp only [Act.put, List.setIfInBounds_toArray, List.set_cons_zero, List.set_cons_succ]
      refine' wpAnyZ_takeA (i := 3) (v := ?_) (opAt rfl) (by kernel_rfl) (by kernel_rfl) (by kernel_rfl) (by kernel_rfl) (fun _ _ _ h => h) (by assumption) (by rfl) (fun w hSw => ?_) ?_
      rotate_left
      · (try dsimp only at hSw); go_simp; (try with_reducible rfl)
      try simp only [Act.put, List.setIfInBounds_toArray, List.set_cons_zero, List.set_cons_succ]
      refine' wpAnyZ_takeA (i := 4) (v := ?_) (opAt rfl) (by kernel_rfl) (by kernel_rfl) (by kernel_rfl) (by kernel_rfl) (fun _ _ _ h => h) (by assumption) (by rfl) (fun w hSw => ?_) ?_
      rotate_left
      · (try dsimp only at hSw); go_simp; (try with_reducible rfl)
      try simp only [Act.put, List.setIfInBounds_toArray, List.set_cons_zero, List.set_cons_succ]
      refine' wpAnyZ_takeA (i := 5) (v := ?_) (opAt rfl) (by kernel_rfl) (by kernel_rfl) (by kernel_rfl) (by kernel_rfl) (fun _ _ _ h => h) (by assumption) (by rfl) (fun w hSw => ?_) ?_
      rotate_left
      · (try dsimp only at hSw); go_simp; (try with_reducible rfl)
      try simp only [Act.put, List.setIfInBounds_toArray, List.set_cons_zero, List.set_cons_succ]
      refine' wpAnyZ_takeA (i := 6) (v := ?_) (opAt rfl) (by kernel_rfl) (by kernel_rfl) (by kernel_rfl) (by kernel_rfl) (fun _ _ _ h => h) (by assumption) (by rfl) (fun w hSw => ?_) ?_
      rotate_left
      · (try dsimp only at hSw); go_simp; (try with_reducible rfl)
      try simp only [Act.put, List.setIfInBounds_toArray, List.set_cons_zero, List.set_cons_succ]
      refine' wpAnyZ_takeA (i := 7) (v := ?_) (opAt rfl) (by kernel_rfl) (by kernel_rfl) (by kernel_rfl) (by kernel_rfl) (fun _ _ _ h => h) (by assumption) (by rfl) (fun w hSw => ?_) ?_
      rotate_left
      · (try dsimp only at hSw); go_simp; (try with_reducible rfl)
      try simp only [Act.put, List.setIfInBounds_toArray, List.set_cons_zero, List.set_cons_succ]
      refine' wpAnyZ_takeA (i := 8) (v := ?_) (opAt rfl) (by kernel_rfl) (by kernel_rfl) (by kernel_rfl) (by kernel_rfl) (fun _ _ _ h => h) (by assumption) (by rfl) (fun w hSw => ?_) ?_
      rotate_left
      · (try dsimp only at hSw); go_simp; (try with_reducible rfl)
      try simp only [Act.put, List.setIfInBounds_toArray, List.set_cons_zero, List.set_cons_succ]
      refine' wpAnyZ_takeA (i := 9) (v := ?_) (opAt rfl) (by kernel_rfl) (by kernel_rfl) (by kernel_rfl) (by kernel_rfl) (fun _ _ _ h => h) (by assumption) (by rfl) (fun w hSw => ?_) ?_
      rotate_left
      · (try dsimp only at hSw); go_simp; (try with_reducible rfl)
      try simp only [Act.put, List.setIfInBounds_toArray, List.set_cons_zero, List.set_cons_succ]
      refine' wpAnyZ_takeA (i := 10) (v := ?_) (opAt rfl) (by kernel_rfl) (by kernel_rfl) (by kernel_rfl) (by kernel_rfl) (fun _ _ _ h => h) (by assumption) (by rfl) (fun w hSw => ?_) ?_
      rotate_left
      · (try dsimp only at hSw); go_simp; (try with_reducible rfl)
      try simp only [Act.put, List.setIfInBounds_toArray, List.set_cons_zero, List.set_cons_succ]
      refine' wpAnyZ_takeA (i := 11) (v := ?_) (opAt rfl) (by kernel_rfl) (by kernel_rfl) (by kernel_rfl) (by kernel_rfl) (fun _ _ _ h => h) (by assumption) (by rfl) (fun w hSw => ?_) ?_
      rotate_left
      · (try dsimp only at hSw); go_simp; (try with_reducible rfl)
      try simp only [Act.put, List.setIfInBounds_toArray, List.set_cons_zero, List.set_cons_succ]
      refine wpAnyZ_ready (rs := [12]) (by kernel_rfl) (by simp) ?_
      refine AllReadyZ.last (opAt rfl) (by kernel_rfl) (fun K hK => ?_) ?_
      · skip
        go_simp
        refine (Dk.out _ R).mono ?_
        rintro e w8 ⟨rfl, R8, hg8⟩
        replace M := M.grown hg8 (fun e => by injection e with e; exact HGN.out.1 e.symm) (fun e => by injection e with e; exact HGN.out.2.1 e.symm)
        replace bc := bc.grown hg8 (fun e => by injection e with e; have h1 := HGN.out; have h2 := HGC.out; omega)
        replace B0 := below_grown B0 hg8 (by have := HGN.out; omega) B0.size
        clear R hg8
        try go_wp2_with fail
        refine hK.out _ _ ?_
        clear hK K
        try simp only [Act.put, List.setIfInBounds_toArray, List.set_cons_zero, List.set_cons_succ]
        refine wpAnyZ_done (by kernel_rfl) ?_ _
        go_wp2_with fail
        go_roundw
        case measure => simp [intOf]; omega
        case rel => exact ⟨j + 1, by go_num, by omega, M, by rw [← HM2.out]; exact R8, bc, B0⟩
      exact AllReadyZ.nil
    · have hjn : j = n := by omega
      have hlt2 : ¬ (j : Int) < (n : Int) := by omega
      subst hjn
      rw [HWS.out] at M R
      clear hlt DO
      clear hj
      rw [HGC.out] at bc ⊢
      have mc := fun i => bc.cell i
      go_wp2_with fail
      refine (WG.out _).mono ?_
      rintro e w5 ⟨rfl, hb1⟩
      replace M := M.below hb1
      replace R := (show RefOk _ g ws from Blk.below R hb1 (Blk.lt R))
      replace bc := bc.below hb1 bc.lt
      replace B0 := B0.trans (hb1.mono B0.size)
      clear hb1 mc
      have mc := fun i => bc.cell i
      clear mc
      go_wp2_with fail
      refine wp_region_heldZ [] (fun w' => w'.cell? ⟨w.heap.size, 0, none⟩ = some (.int .i64 s) ∧ w'.cell? ⟨w.heap.size, 1, none⟩ = some (.int .i64 t) ∧ w'.cell? ⟨w.heap.size, 2, none⟩ = some (.int .i64 f) ∧ w'.cell? ⟨w.heap.size, 3, none⟩ = some (.int .i64 l) ∧ w'.cell? ⟨w.heap.size, 4, none⟩ = some (.int .i64 p)) (by kernel_rfl) (by exact ⟨bc.cell 0, bc.cell 1, bc.cell 2, bc.cell 3, bc.cell 4⟩) (fun hHeld => ?_)
      replace M := M.drew
      replace R := (show RefOk _ g _ from Blk.drew R)
      replace bc := bc.drew
      replace B0 := B0.drew
      generalize w5.drew = wx at *
      refine' wpAnyZ_takeA (i := 0) (v := ?_) (opAt rfl) (by kernel_rfl) (by kernel_rfl) (by kernel_rfl) (by kernel_rfl) (fun _ _ _ h => h) (by assumption) (by rfl) (fun w hSw => ?_) ?_
      rotate_left
      · (try dsimp only at hSw); go_simp; (try with_reducible rfl)
      try simp only [Act.put, List.setIfInBounds_toArray, List.set_cons_zero, List.set_cons_succ]
      refine' wpAnyZ_takeA (i := 1) (v := ?_) (opAt rfl) (by kernel_rfl) (by kernel_rfl) (by kernel_rfl) (by kernel_rfl) (fun _ _ _ h => h) (by assumption) (by rfl) (fun w hSw => ?_) ?_
      rotate_left
      · (try dsimp only at hSw); go_simp; (try with_reducible rfl)
      try simp only [Act.put, List.setIfInBounds_toArray, List.set_cons_zero, List.set_cons_succ]
      refine' wpAnyZ_takeA (i := 3) (v := ?_) (opAt rfl) (by kernel_rfl) (by kernel_rfl) (by kernel_rfl) (by kernel_rfl) (fun _ _ _ h => h) (by assumption) (by rfl) (fun w hSw => ?_) ?_
      rotate_left
      · (try dsimp only at hSw); go_simp; (try with_reducible rfl)
      try simp only [Act.put, List.setIfInBounds_toArray, List.set_cons_zero, List.set_cons_succ]
      refine' wpAnyZ_takeA (i := 4) (v := ?_) (opAt rfl) (by kernel_rfl) (by kernel_rfl) (by kernel_rfl) (by kernel_rfl) (fun _ _ _ h => h) (by assumption) (by rfl) (fun w hSw => ?_) ?_
      rotate_left
      · (try dsimp only at hSw); go_simp; (try with_reducible rfl)
      try simp only [Act.put, List.setIfInBounds_toArray, List.set_cons_zero, List.set_cons_succ]
      refine' wpAnyZ_takeA (i := 5) (v := ?_) (opAt rfl) (by kernel_rfl) (by kernel_rfl) (by kernel_rfl) (by kernel_rfl) (fun _ _ _ h => h) (by assumption) (by rfl) (fun w hSw => ?_) ?_
      rotate_left
      · (try dsimp only at hSw); go_simp; (try with_reducible rfl)
      try simp only [Act.put, List.setIfInBounds_toArray, List.set_cons_zero, List.set_cons_succ]
      refine wpAnyZ_ready (rs := [2]) (by kernel_rfl) (by simp) ?_
      refine AllReadyZ.cons (opAt rfl) (fun K hK => ?_) ?_
      · skip
        go_simp
        refine (ND.out _ _ _ M).mono ?_
        rintro e wa ⟨rfl, hb1⟩
        replace M := M.below hb1
        replace R := (show RefOk _ g ws from Blk.below R hb1 (Blk.lt R))
        replace bc := bc.below hb1 bc.lt
        replace B0 := B0.trans (hb1.mono B0.size)
        clear hb1
        try go_wp2_with fail
        refine hK.out _ _ (by exact ⟨bc.cell 0, bc.cell 1, bc.cell 2, bc.cell 3, bc.cell 4⟩) (fun hHeld => ?_)
        clear hK K
        try simp only [Act.put, List.setIfInBounds_toArray, List.set_cons_zero, List.set_cons_succ]
        refine wpAnyZ_ready (rs := [6]) (by kernel_rfl) (by simp) ?_
        refine AllReadyZ.cons (opAt rfl) (fun K hK => ?_) ?_
        · skip
          go_simp
          refine (NR.out _ _ _ R).mono ?_
          rintro e wb ⟨rfl, hb1⟩
          replace M := M.below hb1
          replace R := (show RefOk _ g ws from Blk.below R hb1 (Blk.lt R))
          replace bc := bc.below hb1 bc.lt
          replace B0 := B0.trans (hb1.mono B0.size)
          clear hb1
          try go_wp2_with fail
          refine hK.out _ _ (by exact ⟨bc.cell 0, bc.cell 1, bc.cell 2, bc.cell 3, bc.cell 4⟩) (fun hHeld => ?_)
          clear hK K
          try simp only [Act.put, List.setIfInBounds_toArray, List.set_cons_zero, List.set_cons_succ]
          refine' wpAnyZ_takeA (i := 7) (v := ?_) (opAt rfl) (by kernel_rfl) (by kernel_rfl) (by kernel_rfl) (by kernel_rfl) (fun _ _ _ h => h) (by assumption) (by rfl) (fun w hSw => ?_) ?_
          rotate_left
          · (try dsimp only at hSw); go_simp; (try with_reducible rfl)
          try simp only [Act.put, List.setIfInBounds_toArray, List.set_cons_zero, List.set_cons_succ]
          refine' wpAnyZ_takeA (i := 8) (v := ?_) (opAt rfl) (by kernel_rfl) (by kernel_rfl) (by kernel_rfl) (by kernel_rfl) (fun _ _ _ h => h) (by assumption) (by rfl) (fun w hSw => ?_) ?_
          rotate_left
          · (try dsimp only at hSw); go_simp; (try with_reducible rfl)
          try simp only [Act.put, List.setIfInBounds_toArray, List.set_cons_zero, List.set_cons_succ]
          refine' wpAnyZ_takeA (i := 9) (v := ?_) (opAt rfl) (by kernel_rfl) (by kernel_rfl) (by kernel_rfl) (by kernel_rfl) (fun _ _ _ h => h) (by assumption) (by rfl) (fun w hSw => ?_) ?_
          rotate_left
          · (try dsimp only at hSw); go_simp; (try with_reducible rfl)
          try simp only [Act.put, List.setIfInBounds_toArray, List.set_cons_zero, List.set_cons_succ]
          refine' wpAnyZ_takeA (i := 11) (v := ?_) (opAt rfl) (by kernel_rfl) (by kernel_rfl) (by kernel_rfl) (by kernel_rfl) (fun _ _ _ h => h) (by assumption) (by rfl) (fun w hSw => ?_) ?_
          rotate_left
          · (try dsimp only at hSw); go_simp; (try with_reducible rfl)
          try simp only [Act.put, List.setIfInBounds_toArray, List.set_cons_zero, List.set_cons_succ]
          refine' wpAnyZ_takeA (i := 12) (v := ?_) (opAt rfl) (by kernel_rfl) (by kernel_rfl) (by kernel_rfl) (by kernel_rfl) (fun _ _ _ h => h) (by assumption) (by rfl) (fun w hSw => ?_) ?_
          rotate_left
          · (try dsimp only at hSw); go_simp; (try with_reducible rfl)
          try simp only [Act.put, List.setIfInBounds_toArray, List.set_cons_zero, List.set_cons_succ]
          refine wpAnyZ_ready (rs := [10]) (by kernel_rfl) (by simp) ?_
          refine AllReadyZ.cons (opAt rfl) (fun K hK => ?_) ?_
          · skip
            go_simp
            refine (TR.out _ _ _ M).mono ?_
            rintro e wc ⟨rfl, hb1⟩
            replace M := M.below hb1
            replace R := (show RefOk _ g ws from Blk.below R hb1 (Blk.lt R))
            replace bc := bc.below hb1 bc.lt
            replace B0 := B0.trans (hb1.mono B0.size)
            clear hb1
            try go_wp2_with fail
            refine hK.out _ _ (by exact ⟨bc.cell 0, bc.cell 1, bc.cell 2, bc.cell 3, bc.cell 4⟩) (fun hHeld => ?_)
            clear hK K
            try simp only [Act.put, List.setIfInBounds_toArray, List.set_cons_zero, List.set_cons_succ]
            refine wpAnyZ_ready (rs := [13]) (by kernel_rfl) (by simp) ?_
            refine AllReadyZ.cons (opAt rfl) (fun K hK => ?_) ?_
            · skip
              go_simp
              refine (RT.out _ _ _ R).mono ?_
              rintro e wd ⟨rfl, hb1⟩
              replace M := M.below hb1
              replace R := (show RefOk _ g ws from Blk.below R hb1 (Blk.lt R))
              replace bc := bc.below hb1 bc.lt
              replace B0 := B0.trans (hb1.mono B0.size)
              clear hb1
              try go_wp2_with fail
              refine hK.out _ _ (by exact ⟨bc.cell 0, bc.cell 1, bc.cell 2, bc.cell 3, bc.cell 4⟩) (fun hHeld => ?_)
              clear hK K
              try simp only [Act.put, List.setIfInBounds_toArray, List.set_cons_zero, List.set_cons_succ]
              refine' wpAnyZ_takeA (i := 14) (v := ?_) (opAt rfl) (by kernel_rfl) (by kernel_rfl) (by kernel_rfl) (by kernel_rfl) (fun _ _ _ h => h) (by assumption) (by rfl) (fun w hSw => ?_) ?_
              rotate_left
              · (try dsimp only at hSw); go_simp; (try with_reducible rfl)
              try simp only [Act.put, List.setIfInBounds_toArray, List.set_cons_zero, List.set_cons_succ]
              refine' wpAnyZ_takeA (i := 15) (v := ?_) (opAt rfl) (by kernel_rfl) (by kernel_rfl) (by kernel_rfl) (by kernel_rfl) (fun _ _ _ h => h) (by assumption) (by rfl) (fun w hSw => ?_) ?_
              rotate_left
              · (try dsimp only at hSw); go_simp; (try with_reducible rfl)
              try simp only [Act.put, List.setIfInBounds_toArray, List.set_cons_zero, List.set_cons_succ]
              refine' wpAnyZ_takeA (i := 16) (v := ?_) (opAt rfl) (by kernel_rfl) (by kernel_rfl) (by kernel_rfl) (by kernel_rfl) (fun _ _ _ h => h) (by assumption) (by rfl) (fun w hSw => ?_) ?_
              rotate_left
              · (try dsimp only at hSw); go_simp; (try with_reducible rfl)
              try simp only [Act.put, List.setIfInBounds_toArray, List.set_cons_zero, List.set_cons_succ]
              refine wpAnyZ_ready (rs := [17]) (by kernel_rfl) (by simp) ?_
              refine AllReadyZ.cons (opAt rfl) (fun K hK => ?_) ?_
              · skip
                go_simp
                refine (AW.out _ B0).mono ?_
                rintro e we ⟨rfl, hb1⟩
                replace M := M.below hb1
                replace R := (show RefOk _ g ws from Blk.below R hb1 (Blk.lt R))
                replace bc := bc.below hb1 bc.lt
                replace B0 := B0.trans (hb1.mono B0.size)
                clear hb1
                try go_wp2_with fail
                refine hK.out _ _ (by exact ⟨bc.cell 0, bc.cell 1, bc.cell 2, bc.cell 3, bc.cell 4⟩) (fun hHeld => ?_)
                clear hK K
                try simp only [Act.put, List.setIfInBounds_toArray, List.set_cons_zero, List.set_cons_succ]
                refine' wpAnyZ_takeA (i := 18) (v := ?_) (opAt rfl) (by kernel_rfl) (by kernel_rfl) (by kernel_rfl) (by kernel_rfl) (fun _ _ _ h => h) (by assumption) (by rfl) (fun w hSw => ?_) ?_
                rotate_left
                · (try dsimp only at hSw); go_simp; (try with_reducible rfl)
                try simp only [Act.put, List.setIfInBounds_toArray, List.set_cons_zero, List.set_cons_succ]
                refine' wpAnyZ_takeA (i := 19) (v := ?_) (opAt rfl) (by kernel_rfl) (by kernel_rfl) (by kernel_rfl) (by kernel_rfl) (fun _ _ _ h => h) (by assumption) (by rfl) (fun w hSw => ?_) ?_
                rotate_left
                · (try dsimp only at hSw); go_simp; (try with_reducible rfl)
                try simp only [Act.put, List.setIfInBounds_toArray, List.set_cons_zero, List.set_cons_succ]
                refine wpAnyZ_done (by kernel_rfl) ?_ _
                go_wp2_with fail
                go_ret
                exact ⟨rfl, B0⟩
              exact AllReadyZ.nil
            exact AllReadyZ.nil
          exact AllReadyZ.nil
        exact AllReadyZ.nil
      exact AllReadyZ.nil
end Go.Proofs.YtlnckjemfabckaaGreatDoor

/-
  Readings of accesses and of writes: by value, and in slices.
-/
namespace Go.Proofs.YtlnckjemfabckaaGreatDoor
open Go.ChangeShapes Go.WideShapes Go.ChangeAt Go.RowKit Go.Deep

section
variable {H : Type} {enc : TypeId × Value → H} {w : World} {spare : Nat → Bool} {held : Bool} {base : Nat}
set_option maxRecDepth 100000 in
/-- An access by value. -/
theorem open_ask {b0 : Nat} {v : Value} {d : DataW H} {ps : List MemPlace} (hv : Value.okWide Tryz.prog w .any b0 37 v) (h : DataW.Trod enc Tryz.prog w base spare held 37 v d ps) :
    ∃ k a o n, v = .agg #[.int .i64 k, .int .i64 a, .int .u64 o, .int .u64 n] ∧ I64 k ∧ I64 a ∧ W64 o ∧ W64 n := by
  obtain ⟨xs, rfl, hxl, hf⟩ := open_flat Tryz.underlying37 (by kernel_rfl) (by kernel_rfl) hv h
  match xs, hxl with
  | [x0, x1, x2, x3], _ =>
    obtain ⟨y0, n0, z0, e0, g0, _⟩ := hf 0 _ rfl
    obtain ⟨y1, n1, z1, e1, g1, _⟩ := hf 1 _ rfl
    obtain ⟨y2, n2, z2, e2, g2, _⟩ := hf 2 _ rfl
    obtain ⟨y3, n3, z3, e3, g3, _⟩ := hf 3 _ rfl
    obtain ⟨k, h0', _, w0⟩ := DataW.trod_int Tryz.underlying3 g0
    obtain ⟨a, h1', _, w1⟩ := DataW.trod_int Tryz.underlying3 g1
    obtain ⟨o, h2', _, w2⟩ := DataW.trod_int Tryz.underlying32 g2
    obtain ⟨n, h3', _, w3⟩ := DataW.trod_int Tryz.underlying32 g3
    simp at e0 e1 e2 e3 h0' h1' h2' h3'
    exact ⟨k, a, o, n, by rw [e0, e1, e2, e3, h0', h1', h2', h3'], I64.of_wf w0, I64.of_wf w1, W64.of_wf w2, W64.of_wf w3⟩

theorem fld {P : Program} {fs : Array Field} {e : TypeId} {fuel : Nat} {cs : List Value} {y : DataW H × List MemPlace} (he : P.underlying e = some (.struct fs)) (hone : oneCellFields P fs = true) (hl : cs.length = fs.size)
    (hy : DataW.trod enc P w base spare held fuel e cs = some y) (j : Nat) (f : Field) (hj : fs[j]? = some f) : ∃ x n z, cs[j]? = some x ∧ DataW.trod enc P w base spare held n f.type [x] = some z := by
  obtain ⟨ys, m, hn', hy', hlen, hyl, hf⟩ := DataW.trod_struct he hy
  obtain ⟨ho, hk⟩ := hone_of hone j f hj
  have hjl : j < fs.size := (Array.getElem?_eq_some_iff.1 hj).1
  have h1 := hf j f hj
  rw [ho, hk] at h1
  have hone' : (cs.drop j).take 1 = [cs[j]'(by omega)] := by
    rw [List.drop_eq_getElem_cons (by omega)]
    rfl
  rw [hone'] at h1
  have hys : ys[j]? = some (ys[j]'(by omega)) := List.getElem?_eq_getElem (by omega)
  exact ⟨cs[j]'(by omega), m, ys[j]'(by omega), List.getElem?_eq_getElem (by omega), h1.trans hys⟩
set_option maxRecDepth 100000 in
/-- A slice of writes. -/
theorem open_wris {B b0 : Nat} {v : Value} {d : DataW H} {ps : List MemPlace}
    (hv : Value.okWide Tryz.prog w .any b0 24 v) (h : DataW.Trod enc Tryz.prog w base spare held 24 v d ps) (hlt : ∀ p ∈ ps, p.block < B) (hsp : ∀ a, spare a = true) :
    ∃ A len cap l, v = .slice A len cap ∧ len ≤ cap ∧ cap ≤ maxLen ∧ l.length = len ∧ Reads w B 2 A len (recW l) := by
  obtain ⟨A, len, cap, rows, hv, h1, h2, h3, h4, h5⟩ := open_rows (s := 2) Tryz.underlying24 (by kernel_rfl) (by omega) hv h hlt hsp (fun cs => cs.length = 2 → ∃ a n, cs = [.int .i64 a, .int .u64 n]) (fun n cs' z hy _ hl => by
    match cs', hl with
    | [x0, x1], _ =>
      obtain ⟨y0, n0, z0, e0, g0⟩ := fld Tryz.underlying35 (by kernel_rfl) rfl hy 0 _ rfl
      obtain ⟨y1, n1, z1, e1, g1⟩ := fld Tryz.underlying35 (by kernel_rfl) rfl hy 1 _ rfl
      obtain ⟨a, h1', _, w1⟩ := DataW.trod_int Tryz.underlying3 g0
      obtain ⟨o, h2', _, w2⟩ := DataW.trod_int Tryz.underlying32 g1
      simp at e0 e1 h1' h2'
      exact ⟨a, o, by rw [e0, e1, h1', h2']⟩)
  have key : ∀ rows : List (List Value), (∀ r ∈ rows, r.length = 2 ∧ (r.length = 2 → ∃ a n, r = [Value.int .i64 a, .int .u64 n])) → ∃ l : List (Int × Int), l.length = rows.length ∧ recW l = rows.flatten := by
    intro rows
    induction rows with
    | nil => intro _; exact ⟨[], rfl, rfl⟩
    | cons r rows ih =>
      intro h
      obtain ⟨l, e1, e2⟩ := ih (fun r hr => h r (by simp [hr]))
      obtain ⟨h1, h2⟩ := h r (by simp)
      obtain ⟨k, a, rfl⟩ := h2 h1
      exact ⟨(k, a) :: l, by simp [e1], by simp [← e2, recW]⟩
  obtain ⟨l, e1, e2⟩ := key rows h5
  exact ⟨A, len, cap, l, hv, h1, h2, by omega, by rw [e2]; exact h4⟩
end
end Go.Proofs.YtlnckjemfabckaaGreatDoor

