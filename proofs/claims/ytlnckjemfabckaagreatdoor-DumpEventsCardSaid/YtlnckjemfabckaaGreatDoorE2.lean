/-
  dump.Event, gleaningref38.Event; dump.Events.
-/
import Derived.Test.YtlnckjemfabckaaGreatDoorE1
namespace Go.Proofs.YtlnckjemfabckaaGreatDoor
open Go.RowKit

def DevC (g : Nat) (cells : Array Value) (w : World) (o2 : ByteArray) (s3 : Value) (wx : World) : Prop := s3 = .string o2 ∧ Blk wx g 50 cells ∧ Below g w wx
theorem evS_ascii : ∀ (j : Nat) b, evS.data.toList[j]? = some b → b.toNat < 128 := by
  intro j b h
  have : ∀ b ∈ evS.data.toList, b.toNat < 128 := by decide
  exact this b (List.mem_of_getElem? h)
theorem ba_empty_iff (o : ByteArray) : o.toList.isEmpty = true ↔ o = ⟨#[]⟩ := by
  rw [List.isEmpty_iff, ByteArray.toList_eq, Array.toList_eq_nil_iff]
  constructor
  · intro h
    exact ByteArray.ext h
  · rintro rfl
    rfl
theorem sp_thread : (⟨#[32, 116, 104, 114, 101, 97, 100, 32]⟩ : ByteArray) = sp1 ++ (threadB ++ sp1) := rfl
theorem sp_at : (⟨#[32, 97, 116, 32]⟩ : ByteArray) = sp1 ++ (atB ++ sp1) := rfl
set_option maxRecDepth 100000 in
set_option maxHeartbeats 4000000 in
theorem dev_2 (th id at_ k : Int) (key vl hi : Nat) (mo rk : Int) (rv : Nat) (A0 : Option Addr) (N cm : Nat) (R9 : ByteArray) (w : World) (hT : Tab w) (h1 : I64 th) (h2 : I64 id) (h3 : I64 at_) (h4 : key < 18446744073709551616) (h5 : vl < 18446744073709551616) (h6 : hi < 18446744073709551616) (h7 : I64 mo) (hz9 : R9.size ≤ 7000)
    (HRS : ∀ w2, Below w.heap.size w w2 → Calls Tryz.prog 18 #[.agg #[.int .i64 rk, .int .u64 (rv : Nat), .slice A0 N cm]] w2 fun e w' => e = .returned (.string R9) ∧ Below w2.heap.size w2 w') :
    Calls Tryz.prog 16 #[.agg #[.int .i64 2, .int .i64 th, .int .i64 id, .int .i64 at_, .int .i64 k, .int .u64 (key : Nat), .int .u64 (vl : Nat), .int .u64 (hi : Nat), .int .i64 mo, .int .i64 rk, .int .u64 (rv : Nat), .slice A0 N cm]] w fun e w' => e = .returned (.string (joinT (evW 2 th id at_ (opN k key vl hi mo) R9))) ∧ Below w.heap.size w w' := by
  obtain ⟨i0, hi0, hz0, hs0, hb0⟩ := info_parts infoStr
  have B0 := (Below.refl w.heap.size w).alloc (Nat.le_refl _) (.cells #[.int .i64 2, .int .i64 th, .int .i64 id, .int .i64 at_, .int .i64 k, .int .u64 (key : Nat), .int .u64 (vl : Nat), .int .u64 (hi : Nat), .int .i64 mo, .int .i64 rk, .int .u64 (rv : Nat), .slice A0 N cm] 50)
  have bx := Blk.new w 50 #[.int .i64 2, .int .i64 th, .int .i64 id, .int .i64 at_, .int .i64 k, .int .u64 (key : Nat), .int .u64 (vl : Nat), .int .u64 (hi : Nat), .int .i64 mo, .int .i64 rk, .int .u64 (rv : Nat), .slice A0 N cm]
  have mc := fun i => bx.cell i
  have RS := hide HRS
  have OP := hide (fun w2 (hb : Below w.heap.size w w2) => sop_any k key vl hi mo w2 (hT.below hb) h4 h5 h6 h7)
  have I1 := hide (fun w2 => int_any id w2 h2)
  have I2 := hide (fun w2 => int_any th w2 h1)
  have I3 := hide (fun w2 => int_any at_ w2 h3)
  rw [show strOfNums (intL id) = intT id from rfl] at I1
  rw [show strOfNums (intL th) = intT th from rfl] at I2
  rw [show strOfNums (intL at_) = intT at_ from rfl] at I3
  have NM := hide (fun w2 (h : Below w.heap.size w w2) => named_any evS evL 2 w2 (hT.below h) ⟨by omega, by omega⟩ (by decide) evS_ascii ev_fields (by decide))
  rw [show evS = ⟨#[105, 110, 118, 111, 107, 101, 32, 114, 101, 115, 112, 111, 110, 100]⟩ from rfl] at NM
  have s1 := intT_size id
  have s2 := intT_size th
  have s3 := intT_size at_
  have s4 := nmd_size (n := 10) (by omega) evL_size 2
  have s5 := opN_size k key vl hi mo
  have HSZ := hide (evW_size 2 th id at_ (opN k key vl hi mo) R9 s5 hz9)
  have HOE := hide (show opN k key vl hi mo = if opT k key vl hi mo = ⟨#[]⟩ then none1 else opT k key vl hi mo from rfl)
  have hWE : evW 2 th id at_ (opN k key vl hi mo) R9 = [nmd evL 2, intT id, threadB, intT th, atB, intT at_, opN k key vl hi mo] ++ [R9] := by unfold evW; rw [if_pos rfl]
  rw [hWE] at HSZ ⊢
  generalize opN k key vl hi mo = o2 at *
  generalize hoo : opT k key vl hi mo = oo at *
  generalize nmd evL 2 = nm at *
  generalize intT id = ti at *
  generalize intT th = tt at *
  generalize intT at_ = ta at *
  clear hT h1 h2 h3 h4 h5 h6 h7 hoo hWE HRS
  obtain ⟨Q, hQ⟩ : ∃ Q, Q = joinT ([nm, ti, threadB, tt, atB, ta, o2] ++ [R9]) := ⟨_, rfl⟩
  rw [← hQ] at HSZ ⊢
  have HQ := hide hQ
  clear hQ
  go_enter Tryz.func16, Tryz.ntmps16
  go_wp2_with fail
  refine (OP.out _ B0).mono ?_
  rintro e w1 ⟨rfl, hb1⟩
  replace B0 := B0.trans (hb1.mono (Nat.le_of_lt bx.lt))
  replace bx := bx.below hb1 bx.lt
  clear hb1 mc
  generalize hgw : w.heap.size = g at *
  have HGW := hide hgw
  clear hgw
  go_upto_if 9 with fail
  go_cut [3] from 8 to 9 (DevC g #[.int .i64 2, .int .i64 th, .int .i64 id, .int .i64 at_, .int .i64 k, .int .u64 (key : Nat), .int .u64 (vl : Nat), .int .u64 (hi : Nat), .int .i64 mo, .int .i64 rk, .int .u64 (rv : Nat), .slice A0 N cm] w o2)
  case first =>
    cases hb : oo.toList.isEmpty
    case true =>
      have ho2 : o2 = none1 := HOE.out.trans (if_pos ((ba_empty_iff oo).1 hb))
      have HO2 := hide ho2
      clear ho2 hb
      go_wp2_with fail
      go_meet
      exact ⟨by rw [HO2.out]; rfl, bx, B0⟩
    case false =>
      have ho2 : o2 = oo := HOE.out.trans (if_neg (fun e => by rw [(ba_empty_iff oo).2 e] at hb; cases hb))
      have HO2 := hide ho2
      clear ho2 hb
      go_wp2_with fail
      go_meet
      exact ⟨by rw [HO2.out], bx, B0⟩
  case rest =>
    clear bx B0
    obtain ⟨rfl, bx, B0⟩ := hcut
    go_wp2_with fail
    refine wp_region_heldZ [] (fun w' => w'.cell? ⟨g, 0, none⟩ = some (.int .i64 2) ∧ w'.cell? ⟨g, 1, none⟩ = some (.int .i64 th) ∧ w'.cell? ⟨g, 2, none⟩ = some (.int .i64 id) ∧ w'.cell? ⟨g, 3, none⟩ = some (.int .i64 at_)) (by kernel_rfl) (by exact ⟨bx.cell 0, bx.cell 1, bx.cell 2, bx.cell 3⟩) (fun hHeld => ?_)
    replace bx := bx.drew
    replace B0 := B0.drew
    generalize wc.drew = wd at *
    refine' wpAnyZ_takeA (i := 0) (v := ?_) (opAt rfl) (by kernel_rfl) (by kernel_rfl) (by kernel_rfl) (by kernel_rfl) (fun _ _ _ h => h) (by assumption) (by rfl) (fun w hSw => ?_) ?_
    rotate_left
    · (try dsimp only at hSw); go_simp; (try with_reducible rfl)
    try simp only [Act.put, List.setIfInBounds_toArray, List.set_cons_zero, List.set_cons_succ]
    refine' wpAnyZ_takeA (i := 1) (v := ?_) (opAt rfl) (by kernel_rfl) (by kernel_rfl) (by kernel_rfl) (by kernel_rfl) (fun _ _ _ h => h) (by assumption) (by rfl) (fun w hSw => ?_) ?_
    rotate_left
    · (try dsimp only at hSw); go_simp; (try with_reducible rfl)
    try simp only [Act.put, List.setIfInBounds_toArray, List.set_cons_zero, List.set_cons_succ]
    refine' wpAnyZ_takeA (i := 3) (v := ?_) (opAt rfl) (by kernel_rfl) (by kernel_rfl) (by kernel_rfl) (by kernel_rfl) (fun _ _ _ h => h) (by assumption) (by rfl) (fun w hSw => ?_) ?_
    rotate_left
    · (try dsimp only at hSw); go_simp; (try with_reducible rfl)
    try simp only [Act.put, List.setIfInBounds_toArray, List.set_cons_zero, List.set_cons_succ]
    refine' wpAnyZ_takeA (i := 4) (v := ?_) (opAt rfl) (by kernel_rfl) (by kernel_rfl) (by kernel_rfl) (by kernel_rfl) (fun _ _ _ h => h) (by assumption) (by rfl) (fun w hSw => ?_) ?_
    rotate_left
    · (try dsimp only at hSw); go_simp; (try with_reducible rfl)
    try simp only [Act.put, List.setIfInBounds_toArray, List.set_cons_zero, List.set_cons_succ]
    refine' wpAnyZ_takeA (i := 6) (v := ?_) (opAt rfl) (by kernel_rfl) (by kernel_rfl) (by kernel_rfl) (by kernel_rfl) (fun _ _ _ h => h) (by assumption) (by rfl) (fun w hSw => ?_) ?_
    rotate_left
    · (try dsimp only at hSw); go_simp; (try with_reducible rfl)
    try simp only [Act.put, List.setIfInBounds_toArray, List.set_cons_zero, List.set_cons_succ]
    refine' wpAnyZ_takeA (i := 7) (v := ?_) (opAt rfl) (by kernel_rfl) (by kernel_rfl) (by kernel_rfl) (by kernel_rfl) (fun _ _ _ h => h) (by assumption) (by rfl) (fun w hSw => ?_) ?_
    rotate_left
    · (try dsimp only at hSw); go_simp; (try with_reducible rfl)
    try simp only [Act.put, List.setIfInBounds_toArray, List.set_cons_zero, List.set_cons_succ]
    refine' wpAnyZ_takeA (i := 9) (v := ?_) (opAt rfl) (by kernel_rfl) (by kernel_rfl) (by kernel_rfl) (by kernel_rfl) (fun _ _ _ h => h) (by assumption) (by rfl) (fun w hSw => ?_) ?_
    rotate_left
    · (try dsimp only at hSw); go_simp; (try with_reducible rfl)
    try simp only [Act.put, List.setIfInBounds_toArray, List.set_cons_zero, List.set_cons_succ]
    refine' wpAnyZ_takeA (i := 10) (v := ?_) (opAt rfl) (by kernel_rfl) (by kernel_rfl) (by kernel_rfl) (by kernel_rfl) (fun _ _ _ h => h) (by assumption) (by rfl) (fun w hSw => ?_) ?_
    rotate_left
    · (try dsimp only at hSw); go_simp; (try with_reducible rfl)
    try simp only [Act.put, List.setIfInBounds_toArray, List.set_cons_zero, List.set_cons_succ]
    refine' wpAnyZ_takeA (i := 12) (v := ?_) (opAt rfl) (by kernel_rfl) (by kernel_rfl) (by kernel_rfl) (by kernel_rfl) (fun _ _ _ h => h) (by assumption) (by rfl) (fun w hSw => ?_) ?_
    rotate_left
    · (try dsimp only at hSw); go_simp; (try with_reducible rfl)
    try simp only [Act.put, List.setIfInBounds_toArray, List.set_cons_zero, List.set_cons_succ]
    refine wpAnyZ_ready (rs := [2]) (by kernel_rfl) (by simp) ?_
    refine AllReadyZ.cons (opAt rfl) (fun K hK => ?_) ?_
    · skip
      go_simp
      refine (NM.out _ B0).mono ?_
      rintro e w2 ⟨rfl, hb1⟩
      replace B0 := B0.trans (hb1.mono (Nat.le_of_lt bx.lt))
      replace bx := bx.below hb1 bx.lt
      clear hb1
      try go_wp2_with fail
      refine hK.out _ _ (by exact ⟨bx.cell 0, bx.cell 1, bx.cell 2, bx.cell 3⟩) (fun hHeld => ?_)
      clear hK K
      try simp only [Act.put, List.setIfInBounds_toArray, List.set_cons_zero, List.set_cons_succ]
      refine wpAnyZ_ready (rs := [5]) (by kernel_rfl) (by simp) ?_
      refine AllReadyZ.cons (opAt rfl) (fun K hK => ?_) ?_
      · skip
        go_simp
        refine (I1.out _).mono ?_
        rintro e w3 ⟨rfl, hb1⟩
        replace B0 := B0.trans (hb1.mono (Nat.le_of_lt bx.lt))
        replace bx := bx.below hb1 bx.lt
        clear hb1
        try go_wp2_with fail
        refine hK.out _ _ (by exact ⟨bx.cell 0, bx.cell 1, bx.cell 2, bx.cell 3⟩) (fun hHeld => ?_)
        clear hK K
        try simp only [Act.put, List.setIfInBounds_toArray, List.set_cons_zero, List.set_cons_succ]
        refine wpAnyZ_ready (rs := [8]) (by kernel_rfl) (by simp) ?_
        refine AllReadyZ.cons (opAt rfl) (fun K hK => ?_) ?_
        · skip
          go_simp
          refine (I2.out _).mono ?_
          rintro e w4 ⟨rfl, hb1⟩
          replace B0 := B0.trans (hb1.mono (Nat.le_of_lt bx.lt))
          replace bx := bx.below hb1 bx.lt
          clear hb1
          try go_wp2_with fail
          refine hK.out _ _ (by exact ⟨bx.cell 0, bx.cell 1, bx.cell 2, bx.cell 3⟩) (fun hHeld => ?_)
          clear hK K
          try simp only [Act.put, List.setIfInBounds_toArray, List.set_cons_zero, List.set_cons_succ]
          refine wpAnyZ_ready (rs := [11]) (by kernel_rfl) (by simp) ?_
          refine AllReadyZ.cons (opAt rfl) (fun K hK => ?_) ?_
          · skip
            go_simp
            refine (I3.out _).mono ?_
            rintro e w5 ⟨rfl, hb1⟩
            replace B0 := B0.trans (hb1.mono (Nat.le_of_lt bx.lt))
            replace bx := bx.below hb1 bx.lt
            clear hb1
            try go_wp2_with fail
            refine hK.out _ _ (by exact ⟨bx.cell 0, bx.cell 1, bx.cell 2, bx.cell 3⟩) (fun hHeld => ?_)
            clear hK K
            try simp only [Act.put, List.setIfInBounds_toArray, List.set_cons_zero, List.set_cons_succ]
            refine wpAnyZ_ready (rs := [13]) (by kernel_rfl) (by simp) ?_
            refine AllReadyZ.cons (opAt rfl) (fun K hK => ?_) ?_
            · skip
              go_simp
              have hsz : g + 1 ≤ w5.heap.size := bx.lt
              have ho := own_lit w5 9 #[.string nm, .string ti, .string ⟨#[116, 104, 114, 101, 97, 100]⟩, .string tt, .string ⟨#[97, 116]⟩, .string ta, .string o2] 7 (g + 1) hsz rfl (by omega)
              replace bx := bx.alloc (.cells #[.string nm, .string ti, .string ⟨#[116, 104, 114, 101, 97, 100]⟩, .string tt, .string ⟨#[97, 116]⟩, .string ta, .string o2] 9)
              replace B0 := B0.alloc (by omega) (.cells #[.string nm, .string ti, .string ⟨#[116, 104, 114, 101, 97, 100]⟩, .string tt, .string ⟨#[97, 116]⟩, .string ta, .string o2] 9)
              generalize w5.alloc (.cells #[.string nm, .string ti, .string ⟨#[116, 104, 114, 101, 97, 100]⟩, .string tt, .string ⟨#[97, 116]⟩, .string ta, .string o2] 9) = w6 at *
              clear hsz
              refine hK.out _ _ (by exact ⟨bx.cell 0, bx.cell 1, bx.cell 2, bx.cell 3⟩) (fun hHeld => ?_)
              clear hK K
              try simp only [Act.put, List.setIfInBounds_toArray, List.set_cons_zero, List.set_cons_succ]
              refine' wpAnyZ_takeA (i := 14) (v := ?_) (opAt rfl) (by kernel_rfl) (by kernel_rfl) (by kernel_rfl) (by kernel_rfl) (fun _ _ _ h => h) (by assumption) (by rfl) (fun w hSw => ?_) ?_
              rotate_left
              · (try dsimp only at hSw); go_simp; (try with_reducible rfl)
              try simp only [Act.put, List.setIfInBounds_toArray, List.set_cons_zero, List.set_cons_succ]
              refine wpAnyZ_done (by kernel_rfl) ?_ _
              replace ho : w6.ownsRow (g + 1) 9 1 (.slice (some ⟨w5.heap.size, 0, none⟩) 7 7) 7 (strs [nm, ti, threadB, tt, atB, ta, o2]) := ho
              have mc := fun i => bx.cell i
              go_wp2_with fail
              refine (RS.out _ B0).mono ?_
              rintro e w7 ⟨rfl, hb1⟩
              replace B0 := B0.trans (hb1.mono (Nat.le_of_lt bx.lt))
              replace bx := bx.below hb1 bx.lt
              replace ho := own_below ho hb1
              clear hb1 mc
              have hr6 := Reads.new w7 (strs [R9]) 9 1 1 rfl
              have hsz : g + 1 ≤ w7.heap.size := bx.lt
              replace bx := bx.alloc (.cells #[.string R9] 9)
              replace B0 := B0.alloc (show g ≤ w7.heap.size by omega) (.cells #[.string R9] 9)
              replace ho := World.ownsRow.alloc ho (.cells #[.string R9] 9)
              have mc := fun i => bx.cell i
              go_wp2_with (at_builtin; refine wpList_append_any _ rfl (.tmp 27) (.tmp 31) _ rfl (g + 1) 9 i0 _ 1 16 Tryz.underlying87 hi0 hz0 hs0 hb0 rfl (by omega) _ 7 _ rfl ho (w7.heap.size + 1) (some ⟨w7.heap.size, 0, none⟩) 1 1 (strs [R9]) rfl hr6 (strs_one _) (by unfold maxLen; omega) (by omega) (by simp only [World.size_alloc]; omega) ?_; intro v3 w8 ho3 hg3 hat3; replace bx := blk_appended bx ho hg3 (by omega); replace B0 := below_appended B0 ho hg3 (by omega) (by simp only [World.size_alloc]; omega); obtain ⟨A3, c3, rfl, _⟩ := own_reads ho3; rw [← strs_app] at ho3; clear ho hg3 hat3 hr6 hsz mc; have ho := ho3; clear ho3; have mc := fun i => bx.cell i)
              have hq := HQ.out
              have hs9 := HSZ.out
              rw [hq] at hs9
              have TX := hide (dtext_any (g + 1) (7 + 1) c3 A3 ([nm, ti, threadB, tt, atB, ta, o2] ++ [R9]) w8 ho (by omega) (by omega) (by omega))
              rw [← hq] at TX
              clear hq hs9 HQ ho
              refine (TX.out).mono ?_
              rintro e w9 ⟨rfl, hb1⟩
              go_wp2_with fail
              go_ret
              exact ⟨rfl, by rw [HGW.out]; exact B0.trans (hb1.mono (Nat.le_of_lt bx.lt))⟩
            exact AllReadyZ.nil
          exact AllReadyZ.nil
        exact AllReadyZ.nil
      exact AllReadyZ.nil
    exact AllReadyZ.nil
set_option maxRecDepth 100000 in
set_option maxHeartbeats 4000000 in
theorem dev_x (kd th id at_ k : Int) (key vl hi : Nat) (mo rk : Int) (rv : Nat) (A0 : Option Addr) (N cm : Nat) (R9 : ByteArray) (w : World) (hT : Tab w) (hkd : I64 kd) (qk : (kd == 2) = false) (h1 : I64 th) (h2 : I64 id) (h3 : I64 at_) (h4 : key < 18446744073709551616) (h5 : vl < 18446744073709551616) (h6 : hi < 18446744073709551616) (h7 : I64 mo) (hz9 : R9.size ≤ 7000)
    (HRS : ∀ w2, Below w.heap.size w w2 → Calls Tryz.prog 18 #[.agg #[.int .i64 rk, .int .u64 (rv : Nat), .slice A0 N cm]] w2 fun e w' => e = .returned (.string R9) ∧ Below w2.heap.size w2 w') :
    Calls Tryz.prog 16 #[.agg #[.int .i64 kd, .int .i64 th, .int .i64 id, .int .i64 at_, .int .i64 k, .int .u64 (key : Nat), .int .u64 (vl : Nat), .int .u64 (hi : Nat), .int .i64 mo, .int .i64 rk, .int .u64 (rv : Nat), .slice A0 N cm]] w fun e w' => e = .returned (.string (joinT (evW kd th id at_ (opN k key vl hi mo) R9))) ∧ Below w.heap.size w w' := by
  obtain ⟨i0, hi0, hz0, hs0, hb0⟩ := info_parts infoStr
  have B0 := (Below.refl w.heap.size w).alloc (Nat.le_refl _) (.cells #[.int .i64 kd, .int .i64 th, .int .i64 id, .int .i64 at_, .int .i64 k, .int .u64 (key : Nat), .int .u64 (vl : Nat), .int .u64 (hi : Nat), .int .i64 mo, .int .i64 rk, .int .u64 (rv : Nat), .slice A0 N cm] 50)
  have bx := Blk.new w 50 #[.int .i64 kd, .int .i64 th, .int .i64 id, .int .i64 at_, .int .i64 k, .int .u64 (key : Nat), .int .u64 (vl : Nat), .int .u64 (hi : Nat), .int .i64 mo, .int .i64 rk, .int .u64 (rv : Nat), .slice A0 N cm]
  have mc := fun i => bx.cell i
  have RS := hide HRS
  have OP := hide (fun w2 (hb : Below w.heap.size w w2) => sop_any k key vl hi mo w2 (hT.below hb) h4 h5 h6 h7)
  have I1 := hide (fun w2 => int_any id w2 h2)
  have I2 := hide (fun w2 => int_any th w2 h1)
  have I3 := hide (fun w2 => int_any at_ w2 h3)
  rw [show strOfNums (intL id) = intT id from rfl] at I1
  rw [show strOfNums (intL th) = intT th from rfl] at I2
  rw [show strOfNums (intL at_) = intT at_ from rfl] at I3
  have NM := hide (fun w2 (h : Below w.heap.size w w2) => named_any evS evL kd w2 (hT.below h) hkd (by decide) evS_ascii ev_fields (by decide))
  rw [show evS = ⟨#[105, 110, 118, 111, 107, 101, 32, 114, 101, 115, 112, 111, 110, 100]⟩ from rfl] at NM
  have s1 := intT_size id
  have s2 := intT_size th
  have s3 := intT_size at_
  have s4 := nmd_size (n := 10) (by omega) evL_size kd
  have s5 := opN_size k key vl hi mo
  have HSZ := hide (evW_size kd th id at_ (opN k key vl hi mo) R9 s5 hz9)
  have HOE := hide (show opN k key vl hi mo = if opT k key vl hi mo = ⟨#[]⟩ then none1 else opT k key vl hi mo from rfl)
  have hWE : evW kd th id at_ (opN k key vl hi mo) R9 = [nmd evL kd, intT id, threadB, intT th, atB, intT at_, opN k key vl hi mo] ++ [] := by unfold evW; rw [if_neg (by simpa using qk)]
  rw [hWE] at HSZ ⊢
  generalize opN k key vl hi mo = o2 at *
  generalize hoo : opT k key vl hi mo = oo at *
  generalize nmd evL kd = nm at *
  generalize intT id = ti at *
  generalize intT th = tt at *
  generalize intT at_ = ta at *
  clear hT hkd h1 h2 h3 h4 h5 h6 h7 hoo hWE HRS
  obtain ⟨Q, hQ⟩ : ∃ Q, Q = joinT ([nm, ti, threadB, tt, atB, ta, o2] ++ []) := ⟨_, rfl⟩
  rw [← hQ] at HSZ ⊢
  have HQ := hide hQ
  clear hQ
  go_enter Tryz.func16, Tryz.ntmps16
  go_wp2_with fail
  refine (OP.out _ B0).mono ?_
  rintro e w1 ⟨rfl, hb1⟩
  replace B0 := B0.trans (hb1.mono (Nat.le_of_lt bx.lt))
  replace bx := bx.below hb1 bx.lt
  clear hb1 mc
  generalize hgw : w.heap.size = g at *
  have HGW := hide hgw
  clear hgw
  go_upto_if 9 with fail
  go_cut [3] from 8 to 9 (DevC g #[.int .i64 kd, .int .i64 th, .int .i64 id, .int .i64 at_, .int .i64 k, .int .u64 (key : Nat), .int .u64 (vl : Nat), .int .u64 (hi : Nat), .int .i64 mo, .int .i64 rk, .int .u64 (rv : Nat), .slice A0 N cm] w o2)
  case first =>
    cases hb : oo.toList.isEmpty
    case true =>
      have ho2 : o2 = none1 := HOE.out.trans (if_pos ((ba_empty_iff oo).1 hb))
      have HO2 := hide ho2
      clear ho2 hb
      go_wp2_with fail
      go_meet
      exact ⟨by rw [HO2.out]; rfl, bx, B0⟩
    case false =>
      have ho2 : o2 = oo := HOE.out.trans (if_neg (fun e => by rw [(ba_empty_iff oo).2 e] at hb; cases hb))
      have HO2 := hide ho2
      clear ho2 hb
      go_wp2_with fail
      go_meet
      exact ⟨by rw [HO2.out], bx, B0⟩
  case rest =>
    clear bx B0
    obtain ⟨rfl, bx, B0⟩ := hcut
    go_wp2_with fail
    refine wp_region_heldZ [] (fun w' => w'.cell? ⟨g, 0, none⟩ = some (.int .i64 kd) ∧ w'.cell? ⟨g, 1, none⟩ = some (.int .i64 th) ∧ w'.cell? ⟨g, 2, none⟩ = some (.int .i64 id) ∧ w'.cell? ⟨g, 3, none⟩ = some (.int .i64 at_)) (by kernel_rfl) (by exact ⟨bx.cell 0, bx.cell 1, bx.cell 2, bx.cell 3⟩) (fun hHeld => ?_)
    replace bx := bx.drew
    replace B0 := B0.drew
    generalize wc.drew = wd at *
    refine' wpAnyZ_takeA (i := 0) (v := ?_) (opAt rfl) (by kernel_rfl) (by kernel_rfl) (by kernel_rfl) (by kernel_rfl) (fun _ _ _ h => h) (by assumption) (by rfl) (fun w hSw => ?_) ?_
    rotate_left
    · (try dsimp only at hSw); go_simp; (try with_reducible rfl)
    try simp only [Act.put, List.setIfInBounds_toArray, List.set_cons_zero, List.set_cons_succ]
    refine' wpAnyZ_takeA (i := 1) (v := ?_) (opAt rfl) (by kernel_rfl) (by kernel_rfl) (by kernel_rfl) (by kernel_rfl) (fun _ _ _ h => h) (by assumption) (by rfl) (fun w hSw => ?_) ?_
    rotate_left
    · (try dsimp only at hSw); go_simp; (try with_reducible rfl)
    try simp only [Act.put, List.setIfInBounds_toArray, List.set_cons_zero, List.set_cons_succ]
    refine' wpAnyZ_takeA (i := 3) (v := ?_) (opAt rfl) (by kernel_rfl) (by kernel_rfl) (by kernel_rfl) (by kernel_rfl) (fun _ _ _ h => h) (by assumption) (by rfl) (fun w hSw => ?_) ?_
    rotate_left
    · (try dsimp only at hSw); go_simp; (try with_reducible rfl)
    try simp only [Act.put, List.setIfInBounds_toArray, List.set_cons_zero, List.set_cons_succ]
    refine' wpAnyZ_takeA (i := 4) (v := ?_) (opAt rfl) (by kernel_rfl) (by kernel_rfl) (by kernel_rfl) (by kernel_rfl) (fun _ _ _ h => h) (by assumption) (by rfl) (fun w hSw => ?_) ?_
    rotate_left
    · (try dsimp only at hSw); go_simp; (try with_reducible rfl)
    try simp only [Act.put, List.setIfInBounds_toArray, List.set_cons_zero, List.set_cons_succ]
    refine' wpAnyZ_takeA (i := 6) (v := ?_) (opAt rfl) (by kernel_rfl) (by kernel_rfl) (by kernel_rfl) (by kernel_rfl) (fun _ _ _ h => h) (by assumption) (by rfl) (fun w hSw => ?_) ?_
    rotate_left
    · (try dsimp only at hSw); go_simp; (try with_reducible rfl)
    try simp only [Act.put, List.setIfInBounds_toArray, List.set_cons_zero, List.set_cons_succ]
    refine' wpAnyZ_takeA (i := 7) (v := ?_) (opAt rfl) (by kernel_rfl) (by kernel_rfl) (by kernel_rfl) (by kernel_rfl) (fun _ _ _ h => h) (by assumption) (by rfl) (fun w hSw => ?_) ?_
    rotate_left
    · (try dsimp only at hSw); go_simp; (try with_reducible rfl)
    try simp only [Act.put, List.setIfInBounds_toArray, List.set_cons_zero, List.set_cons_succ]
    refine' wpAnyZ_takeA (i := 9) (v := ?_) (opAt rfl) (by kernel_rfl) (by kernel_rfl) (by kernel_rfl) (by kernel_rfl) (fun _ _ _ h => h) (by assumption) (by rfl) (fun w hSw => ?_) ?_
    rotate_left
    · (try dsimp only at hSw); go_simp; (try with_reducible rfl)
    try simp only [Act.put, List.setIfInBounds_toArray, List.set_cons_zero, List.set_cons_succ]
    refine' wpAnyZ_takeA (i := 10) (v := ?_) (opAt rfl) (by kernel_rfl) (by kernel_rfl) (by kernel_rfl) (by kernel_rfl) (fun _ _ _ h => h) (by assumption) (by rfl) (fun w hSw => ?_) ?_
    rotate_left
    · (try dsimp only at hSw); go_simp; (try with_reducible rfl)
    try simp only [Act.put, List.setIfInBounds_toArray, List.set_cons_zero, List.set_cons_succ]
    refine' wpAnyZ_takeA (i := 12) (v := ?_) (opAt rfl) (by kernel_rfl) (by kernel_rfl) (by kernel_rfl) (by kernel_rfl) (fun _ _ _ h => h) (by assumption) (by rfl) (fun w hSw => ?_) ?_
    rotate_left
    · (try dsimp only at hSw); go_simp; (try with_reducible rfl)
    try simp only [Act.put, List.setIfInBounds_toArray, List.set_cons_zero, List.set_cons_succ]
    refine wpAnyZ_ready (rs := [2]) (by kernel_rfl) (by simp) ?_
    refine AllReadyZ.cons (opAt rfl) (fun K hK => ?_) ?_
    · skip
      go_simp
      refine (NM.out _ B0).mono ?_
      rintro e w2 ⟨rfl, hb1⟩
      replace B0 := B0.trans (hb1.mono (Nat.le_of_lt bx.lt))
      replace bx := bx.below hb1 bx.lt
      clear hb1
      try go_wp2_with fail
      refine hK.out _ _ (by exact ⟨bx.cell 0, bx.cell 1, bx.cell 2, bx.cell 3⟩) (fun hHeld => ?_)
      clear hK K
      try simp only [Act.put, List.setIfInBounds_toArray, List.set_cons_zero, List.set_cons_succ]
      refine wpAnyZ_ready (rs := [5]) (by kernel_rfl) (by simp) ?_
      refine AllReadyZ.cons (opAt rfl) (fun K hK => ?_) ?_
      · skip
        go_simp
        refine (I1.out _).mono ?_
        rintro e w3 ⟨rfl, hb1⟩
        replace B0 := B0.trans (hb1.mono (Nat.le_of_lt bx.lt))
        replace bx := bx.below hb1 bx.lt
        clear hb1
        try go_wp2_with fail
        refine hK.out _ _ (by exact ⟨bx.cell 0, bx.cell 1, bx.cell 2, bx.cell 3⟩) (fun hHeld => ?_)
        clear hK K
        try simp only [Act.put, List.setIfInBounds_toArray, List.set_cons_zero, List.set_cons_succ]
        refine wpAnyZ_ready (rs := [8]) (by kernel_rfl) (by simp) ?_
        refine AllReadyZ.cons (opAt rfl) (fun K hK => ?_) ?_
        · skip
          go_simp
          refine (I2.out _).mono ?_
          rintro e w4 ⟨rfl, hb1⟩
          replace B0 := B0.trans (hb1.mono (Nat.le_of_lt bx.lt))
          replace bx := bx.below hb1 bx.lt
          clear hb1
          try go_wp2_with fail
          refine hK.out _ _ (by exact ⟨bx.cell 0, bx.cell 1, bx.cell 2, bx.cell 3⟩) (fun hHeld => ?_)
          clear hK K
          try simp only [Act.put, List.setIfInBounds_toArray, List.set_cons_zero, List.set_cons_succ]
          refine wpAnyZ_ready (rs := [11]) (by kernel_rfl) (by simp) ?_
          refine AllReadyZ.cons (opAt rfl) (fun K hK => ?_) ?_
          · skip
            go_simp
            refine (I3.out _).mono ?_
            rintro e w5 ⟨rfl, hb1⟩
            replace B0 := B0.trans (hb1.mono (Nat.le_of_lt bx.lt))
            replace bx := bx.below hb1 bx.lt
            clear hb1
            try go_wp2_with fail
            refine hK.out _ _ (by exact ⟨bx.cell 0, bx.cell 1, bx.cell 2, bx.cell 3⟩) (fun hHeld => ?_)
            clear hK K
            try simp only [Act.put, List.setIfInBounds_toArray, List.set_cons_zero, List.set_cons_succ]
            refine wpAnyZ_ready (rs := [13]) (by kernel_rfl) (by simp) ?_
            refine AllReadyZ.cons (opAt rfl) (fun K hK => ?_) ?_
            · skip
              go_simp
              have hsz : g + 1 ≤ w5.heap.size := bx.lt
              have ho := own_lit w5 9 #[.string nm, .string ti, .string ⟨#[116, 104, 114, 101, 97, 100]⟩, .string tt, .string ⟨#[97, 116]⟩, .string ta, .string o2] 7 (g + 1) hsz rfl (by omega)
              replace bx := bx.alloc (.cells #[.string nm, .string ti, .string ⟨#[116, 104, 114, 101, 97, 100]⟩, .string tt, .string ⟨#[97, 116]⟩, .string ta, .string o2] 9)
              replace B0 := B0.alloc (by omega) (.cells #[.string nm, .string ti, .string ⟨#[116, 104, 114, 101, 97, 100]⟩, .string tt, .string ⟨#[97, 116]⟩, .string ta, .string o2] 9)
              generalize w5.alloc (.cells #[.string nm, .string ti, .string ⟨#[116, 104, 114, 101, 97, 100]⟩, .string tt, .string ⟨#[97, 116]⟩, .string ta, .string o2] 9) = w6 at *
              clear hsz
              refine hK.out _ _ (by exact ⟨bx.cell 0, bx.cell 1, bx.cell 2, bx.cell 3⟩) (fun hHeld => ?_)
              clear hK K
              try simp only [Act.put, List.setIfInBounds_toArray, List.set_cons_zero, List.set_cons_succ]
              refine' wpAnyZ_takeA (i := 14) (v := ?_) (opAt rfl) (by kernel_rfl) (by kernel_rfl) (by kernel_rfl) (by kernel_rfl) (fun _ _ _ h => h) (by assumption) (by rfl) (fun w hSw => ?_) ?_
              rotate_left
              · (try dsimp only at hSw); go_simp; (try with_reducible rfl)
              try simp only [Act.put, List.setIfInBounds_toArray, List.set_cons_zero, List.set_cons_succ]
              refine wpAnyZ_done (by kernel_rfl) ?_ _
              replace ho : w6.ownsRow (g + 1) 9 1 (.slice (some ⟨w5.heap.size, 0, none⟩) 7 7) 7 (strs [nm, ti, threadB, tt, atB, ta, o2]) := ho
              have mc := fun i => bx.cell i
              go_wp2_with fail
              have hq := HQ.out
              rw [List.append_nil] at hq
              have hs9 := HSZ.out
              rw [hq] at hs9
              have TX := hide (dtext_any (g + 1) 7 7 _ [nm, ti, threadB, tt, atB, ta, o2] w6 ho (by omega) (by omega) (by omega))
              rw [← hq] at TX
              clear hq hs9 HQ ho
              refine (TX.out).mono ?_
              rintro e w9 ⟨rfl, hb1⟩
              go_wp2_with fail
              go_ret
              exact ⟨rfl, by rw [HGW.out]; exact B0.trans (hb1.mono (Nat.le_of_lt bx.lt))⟩
            exact AllReadyZ.nil
          exact AllReadyZ.nil
        exact AllReadyZ.nil
      exact AllReadyZ.nil
    exact AllReadyZ.nil
set_option maxRecDepth 100000 in
set_option maxHeartbeats 4000000 in
theorem rdev_2 (th id at_ k : Int) (key vl hi : Nat) (mo rk : Int) (rv : Nat) (A0 : Option Addr) (N cm : Nat) (R9 : ByteArray) (w : World) (h1 : I64 th) (h2 : I64 id) (h3 : I64 at_) (h4 : key < 18446744073709551616) (h5 : vl < 18446744073709551616) (h6 : hi < 18446744073709551616) (h7 : I64 mo) (hz9 : R9.size ≤ 7000)
    (HRS : ∀ w2, Below w.heap.size w w2 → Calls Tryz.prog 19 #[.agg #[.int .i64 rk, .int .u64 (rv : Nat), .slice A0 N cm]] w2 fun e w' => e = .returned (.string R9) ∧ Below w2.heap.size w2 w') :
    Calls Tryz.prog 17 #[.agg #[.int .i64 2, .int .i64 th, .int .i64 id, .int .i64 at_, .int .i64 k, .int .u64 (key : Nat), .int .u64 (vl : Nat), .int .u64 (hi : Nat), .int .i64 mo, .int .i64 rk, .int .u64 (rv : Nat), .slice A0 N cm]] w fun e w' => e = .returned (.string (joinT (evW 2 th id at_ (opN k key vl hi mo) R9))) ∧ Below w.heap.size w w' := by
  obtain ⟨i0, hi0, hz0, hs0, hb0⟩ := info_parts infoStr
  have B0 := (Below.refl w.heap.size w).alloc (Nat.le_refl _) (.cells #[.int .i64 2, .int .i64 th, .int .i64 id, .int .i64 at_, .int .i64 k, .int .u64 (key : Nat), .int .u64 (vl : Nat), .int .u64 (hi : Nat), .int .i64 mo, .int .i64 rk, .int .u64 (rv : Nat), .slice A0 N cm] 50)
  have bx := Blk.new w 50 #[.int .i64 2, .int .i64 th, .int .i64 id, .int .i64 at_, .int .i64 k, .int .u64 (key : Nat), .int .u64 (vl : Nat), .int .u64 (hi : Nat), .int .i64 mo, .int .i64 rk, .int .u64 (rv : Nat), .slice A0 N cm]
  have mc := fun i => bx.cell i
  have RS := hide HRS
  have OP := hide (fun w2  => rop_any k key vl hi mo w2 h4 h5 h6 h7)
  have I1 := hide (fun w2 => rint_any id w2 h2)
  have I2 := hide (fun w2 => rint_any th w2 h1)
  have I3 := hide (fun w2 => rint_any at_ w2 h3)
  rw [show strOfNums (intL id) = intT id from rfl] at I1
  rw [show strOfNums (intL th) = intT th from rfl] at I2
  rw [show strOfNums (intL at_) = intT at_ from rfl] at I3
  have NM := hide (fun b w2 (hb : Blk w2 b 9 (strs evL).toArray) => rname_any b 2 evL 2 w2 ⟨by omega, by omega⟩ hb)
  rw [show (strs evL).toArray = #[.string ⟨#[105, 110, 118, 111, 107, 101]⟩, .string ⟨#[114, 101, 115, 112, 111, 110, 100]⟩] from rfl, show evL.length = 2 from rfl] at NM
  have s1 := intT_size id
  have s2 := intT_size th
  have s3 := intT_size at_
  have s4 := nmd_size (n := 10) (by omega) evL_size 2
  have s5 := opN_size k key vl hi mo
  have HSZ := hide (evW_size 2 th id at_ (opN k key vl hi mo) R9 s5 hz9)
  have HOE := hide (show opN k key vl hi mo = if opT k key vl hi mo = ⟨#[]⟩ then none1 else opT k key vl hi mo from rfl)
  have hWE : evW 2 th id at_ (opN k key vl hi mo) R9 = [nmd evL 2, intT id, threadB, intT th, atB, intT at_, opN k key vl hi mo] ++ [R9] := by unfold evW; rw [if_pos rfl]
  rw [hWE] at HSZ ⊢
  generalize opN k key vl hi mo = o2 at *
  generalize hoo : opT k key vl hi mo = oo at *
  generalize nmd evL 2 = nm at *
  generalize intT id = ti at *
  generalize intT th = tt at *
  generalize intT at_ = ta at *
  clear h1 h2 h3 h4 h5 h6 h7 hoo hWE HRS
  obtain ⟨Q, hQ⟩ : ∃ Q, Q = joinT ([nm, ti, threadB, tt, atB, ta, o2] ++ [R9]) := ⟨_, rfl⟩
  rw [← hQ] at HSZ ⊢
  have HQ := hide hQ
  clear hQ
  go_enter Tryz.func17, Tryz.ntmps17
  go_wp2_with fail
  refine (OP.out _).mono ?_
  rintro e w1 ⟨rfl, hb1⟩
  replace B0 := B0.trans (hb1.mono (Nat.le_of_lt bx.lt))
  replace bx := bx.below hb1 bx.lt
  clear hb1 mc
  generalize hgw : w.heap.size = g at *
  have HGW := hide hgw
  clear hgw
  go_upto_if 9 with fail
  go_cut [3] from 8 to 9 (DevC g #[.int .i64 2, .int .i64 th, .int .i64 id, .int .i64 at_, .int .i64 k, .int .u64 (key : Nat), .int .u64 (vl : Nat), .int .u64 (hi : Nat), .int .i64 mo, .int .i64 rk, .int .u64 (rv : Nat), .slice A0 N cm] w o2)
  case first =>
    cases hb : oo.toList.isEmpty
    case true =>
      have ho2 : o2 = none1 := HOE.out.trans (if_pos ((ba_empty_iff oo).1 hb))
      have HO2 := hide ho2
      clear ho2 hb
      go_wp2_with fail
      go_meet
      exact ⟨by rw [HO2.out]; rfl, bx, B0⟩
    case false =>
      have ho2 : o2 = oo := HOE.out.trans (if_neg (fun e => by rw [(ba_empty_iff oo).2 e] at hb; cases hb))
      have HO2 := hide ho2
      clear ho2 hb
      go_wp2_with fail
      go_meet
      exact ⟨by rw [HO2.out], bx, B0⟩
  case rest =>
    clear bx B0
    obtain ⟨rfl, bx, B0⟩ := hcut
    go_wp2_with fail
    have HE := hide (show Q = nm ++ ⟨#[32]⟩ ++ ti ++ ⟨#[32, 116, 104, 114, 101, 97, 100, 32]⟩ ++ tt ++ ⟨#[32, 97, 116, 32]⟩ ++ ta ++ ⟨#[32]⟩ ++ o2 ++ ⟨#[32]⟩ ++ R9 by
      rw [HQ.out, List.cons_append, joinT_fold, sp_thread, sp_at]
      simp only [List.cons_append, List.nil_append, List.foldl_cons, List.foldl_nil, ba_assoc]
      rfl)
    clear HQ
    refine wp_region_heldZ [] (fun w' => w'.cell? ⟨g, 0, none⟩ = some (.int .i64 2) ∧ w'.cell? ⟨g, 1, none⟩ = some (.int .i64 th) ∧ w'.cell? ⟨g, 2, none⟩ = some (.int .i64 id) ∧ w'.cell? ⟨g, 3, none⟩ = some (.int .i64 at_)) (by kernel_rfl) (by exact ⟨bx.cell 0, bx.cell 1, bx.cell 2, bx.cell 3⟩) (fun hHeld => ?_)
    replace bx := bx.drew
    replace B0 := B0.drew
    generalize wc.drew = wd at *
    refine' wpAnyZ_takeA (i := 1) (v := ?_) (opAt rfl) (by kernel_rfl) (by kernel_rfl) (by kernel_rfl) (by kernel_rfl) (fun _ _ _ h => h) (by assumption) (by rfl) (fun w hSw => ?_) ?_
    rotate_left
    · (try dsimp only at hSw); go_simp; (try with_reducible rfl)
    try simp only [Act.put, List.setIfInBounds_toArray, List.set_cons_zero, List.set_cons_succ]
    refine' wpAnyZ_takeA (i := 2) (v := ?_) (opAt rfl) (by kernel_rfl) (by kernel_rfl) (by kernel_rfl) (by kernel_rfl) (fun _ _ _ h => h) (by assumption) (by rfl) (fun w hSw => ?_) ?_
    rotate_left
    · (try dsimp only at hSw); go_simp; (try with_reducible rfl)
    try simp only [Act.put, List.setIfInBounds_toArray, List.set_cons_zero, List.set_cons_succ]
    refine' wpAnyZ_takeA (i := 5) (v := ?_) (opAt rfl) (by kernel_rfl) (by kernel_rfl) (by kernel_rfl) (by kernel_rfl) (fun _ _ _ h => h) (by assumption) (by rfl) (fun w hSw => ?_) ?_
    rotate_left
    · (try dsimp only at hSw); go_simp; (try with_reducible rfl)
    try simp only [Act.put, List.setIfInBounds_toArray, List.set_cons_zero, List.set_cons_succ]
    refine' wpAnyZ_takeA (i := 6) (v := ?_) (opAt rfl) (by kernel_rfl) (by kernel_rfl) (by kernel_rfl) (by kernel_rfl) (fun _ _ _ h => h) (by assumption) (by rfl) (fun w hSw => ?_) ?_
    rotate_left
    · (try dsimp only at hSw); go_simp; (try with_reducible rfl)
    try simp only [Act.put, List.setIfInBounds_toArray, List.set_cons_zero, List.set_cons_succ]
    refine' wpAnyZ_takeA (i := 10) (v := ?_) (opAt rfl) (by kernel_rfl) (by kernel_rfl) (by kernel_rfl) (by kernel_rfl) (fun _ _ _ h => h) (by assumption) (by rfl) (fun w hSw => ?_) ?_
    rotate_left
    · (try dsimp only at hSw); go_simp; (try with_reducible rfl)
    try simp only [Act.put, List.setIfInBounds_toArray, List.set_cons_zero, List.set_cons_succ]
    refine' wpAnyZ_takeA (i := 11) (v := ?_) (opAt rfl) (by kernel_rfl) (by kernel_rfl) (by kernel_rfl) (by kernel_rfl) (fun _ _ _ h => h) (by assumption) (by rfl) (fun w hSw => ?_) ?_
    rotate_left
    · (try dsimp only at hSw); go_simp; (try with_reducible rfl)
    try simp only [Act.put, List.setIfInBounds_toArray, List.set_cons_zero, List.set_cons_succ]
    refine' wpAnyZ_takeA (i := 15) (v := ?_) (opAt rfl) (by kernel_rfl) (by kernel_rfl) (by kernel_rfl) (by kernel_rfl) (fun _ _ _ h => h) (by assumption) (by rfl) (fun w hSw => ?_) ?_
    rotate_left
    · (try dsimp only at hSw); go_simp; (try with_reducible rfl)
    try simp only [Act.put, List.setIfInBounds_toArray, List.set_cons_zero, List.set_cons_succ]
    refine' wpAnyZ_takeA (i := 16) (v := ?_) (opAt rfl) (by kernel_rfl) (by kernel_rfl) (by kernel_rfl) (by kernel_rfl) (fun _ _ _ h => h) (by assumption) (by rfl) (fun w hSw => ?_) ?_
    rotate_left
    · (try dsimp only at hSw); go_simp; (try with_reducible rfl)
    try simp only [Act.put, List.setIfInBounds_toArray, List.set_cons_zero, List.set_cons_succ]
    refine' wpAnyZ_takeA (i := 20) (v := ?_) (opAt rfl) (by kernel_rfl) (by kernel_rfl) (by kernel_rfl) (by kernel_rfl) (fun _ _ _ h => h) (by assumption) (by rfl) (fun w hSw => ?_) ?_
    rotate_left
    · (try dsimp only at hSw); go_simp; (try with_reducible rfl)
    try simp only [Act.put, List.setIfInBounds_toArray, List.set_cons_zero, List.set_cons_succ]
    refine wpAnyZ_ready (rs := [0]) (by kernel_rfl) (by simp) ?_
    refine AllReadyZ.cons (opAt rfl) (fun K hK => ?_) ?_
    · skip
      go_simp
      have bl := Blk.new wd 9 #[.string ⟨#[105, 110, 118, 111, 107, 101]⟩, .string ⟨#[114, 101, 115, 112, 111, 110, 100]⟩]
      have hsz : g ≤ wd.heap.size := Nat.le_of_lt bx.lt
      replace bx := bx.alloc (.cells #[.string ⟨#[105, 110, 118, 111, 107, 101]⟩, .string ⟨#[114, 101, 115, 112, 111, 110, 100]⟩] 9)
      replace B0 := B0.alloc hsz (.cells #[.string ⟨#[105, 110, 118, 111, 107, 101]⟩, .string ⟨#[114, 101, 115, 112, 111, 110, 100]⟩] 9)
      generalize wd.alloc (.cells #[.string ⟨#[105, 110, 118, 111, 107, 101]⟩, .string ⟨#[114, 101, 115, 112, 111, 110, 100]⟩] 9) = w2 at *
      clear hsz
      refine hK.out _ _ (by exact ⟨bx.cell 0, bx.cell 1, bx.cell 2, bx.cell 3⟩) (fun hHeld => ?_)
      clear hK K
      try simp only [Act.put, List.setIfInBounds_toArray, List.set_cons_zero, List.set_cons_succ]
      refine wpAnyZ_ready (rs := [3]) (by kernel_rfl) (by simp) ?_
      refine AllReadyZ.cons (opAt rfl) (fun K hK => ?_) ?_
      · skip
        go_simp
        refine (NM.out _ _ bl).mono ?_
        rintro e w9 ⟨rfl, rfl⟩
        try go_wp2_with fail
        refine hK.out _ _ (by exact ⟨bx.cell 0, bx.cell 1, bx.cell 2, bx.cell 3⟩) (fun hHeld => ?_)
        clear hK K
        try simp only [Act.put, List.setIfInBounds_toArray, List.set_cons_zero, List.set_cons_succ]
        refine' wpAnyZ_takeA (i := 4) (v := ?_) (opAt rfl) (by kernel_rfl) (by kernel_rfl) (by kernel_rfl) (by kernel_rfl) (fun _ _ _ h => h) (by assumption) (by rfl) (fun w hSw => ?_) ?_
        rotate_left
        · (try dsimp only at hSw); go_simp; (try rw [if_neg (by omega)]); (try with_reducible rfl)
        try simp only [Act.put, List.setIfInBounds_toArray, List.set_cons_zero, List.set_cons_succ]
        refine wpAnyZ_ready (rs := [7]) (by kernel_rfl) (by simp) ?_
        refine AllReadyZ.cons (opAt rfl) (fun K hK => ?_) ?_
        · skip
          go_simp
          refine (I1.out _).mono ?_
          rintro e w3 ⟨rfl, hb1⟩
          replace B0 := B0.trans (hb1.mono (Nat.le_of_lt bx.lt))
          replace bx := bx.below hb1 bx.lt
          clear hb1
          try go_wp2_with fail
          refine hK.out _ _ (by exact ⟨bx.cell 0, bx.cell 1, bx.cell 2, bx.cell 3⟩) (fun hHeld => ?_)
          clear hK K
          try simp only [Act.put, List.setIfInBounds_toArray, List.set_cons_zero, List.set_cons_succ]
          refine' wpAnyZ_takeA (i := 8) (v := ?_) (opAt rfl) (by kernel_rfl) (by kernel_rfl) (by kernel_rfl) (by kernel_rfl) (fun _ _ _ h => h) (by assumption) (by rfl) (fun w hSw => ?_) ?_
          rotate_left
          · (try dsimp only at hSw); go_simp; (try rw [if_neg (by omega)]); (try with_reducible rfl)
          try simp only [Act.put, List.setIfInBounds_toArray, List.set_cons_zero, List.set_cons_succ]
          refine' wpAnyZ_takeA (i := 9) (v := ?_) (opAt rfl) (by kernel_rfl) (by kernel_rfl) (by kernel_rfl) (by kernel_rfl) (fun _ _ _ h => h) (by assumption) (by rfl) (fun w hSw => ?_) ?_
          rotate_left
          · (try dsimp only at hSw); go_simp; (try rw [if_neg (by omega)]); (try with_reducible rfl)
          try simp only [Act.put, List.setIfInBounds_toArray, List.set_cons_zero, List.set_cons_succ]
          refine wpAnyZ_ready (rs := [12]) (by kernel_rfl) (by simp) ?_
          refine AllReadyZ.cons (opAt rfl) (fun K hK => ?_) ?_
          · skip
            go_simp
            refine (I2.out _).mono ?_
            rintro e w4 ⟨rfl, hb1⟩
            replace B0 := B0.trans (hb1.mono (Nat.le_of_lt bx.lt))
            replace bx := bx.below hb1 bx.lt
            clear hb1
            try go_wp2_with fail
            refine hK.out _ _ (by exact ⟨bx.cell 0, bx.cell 1, bx.cell 2, bx.cell 3⟩) (fun hHeld => ?_)
            clear hK K
            try simp only [Act.put, List.setIfInBounds_toArray, List.set_cons_zero, List.set_cons_succ]
            refine' wpAnyZ_takeA (i := 13) (v := ?_) (opAt rfl) (by kernel_rfl) (by kernel_rfl) (by kernel_rfl) (by kernel_rfl) (fun _ _ _ h => h) (by assumption) (by rfl) (fun w hSw => ?_) ?_
            rotate_left
            · (try dsimp only at hSw); go_simp; (try rw [if_neg (by omega)]); (try with_reducible rfl)
            try simp only [Act.put, List.setIfInBounds_toArray, List.set_cons_zero, List.set_cons_succ]
            refine' wpAnyZ_takeA (i := 14) (v := ?_) (opAt rfl) (by kernel_rfl) (by kernel_rfl) (by kernel_rfl) (by kernel_rfl) (fun _ _ _ h => h) (by assumption) (by rfl) (fun w hSw => ?_) ?_
            rotate_left
            · (try dsimp only at hSw); go_simp; (try rw [if_neg (by omega)]); (try with_reducible rfl)
            try simp only [Act.put, List.setIfInBounds_toArray, List.set_cons_zero, List.set_cons_succ]
            refine wpAnyZ_ready (rs := [17]) (by kernel_rfl) (by simp) ?_
            refine AllReadyZ.cons (opAt rfl) (fun K hK => ?_) ?_
            · skip
              go_simp
              refine (I3.out _).mono ?_
              rintro e w5 ⟨rfl, hb1⟩
              replace B0 := B0.trans (hb1.mono (Nat.le_of_lt bx.lt))
              replace bx := bx.below hb1 bx.lt
              clear hb1
              try go_wp2_with fail
              refine hK.out _ _ (by exact ⟨bx.cell 0, bx.cell 1, bx.cell 2, bx.cell 3⟩) (fun hHeld => ?_)
              clear hK K
              try simp only [Act.put, List.setIfInBounds_toArray, List.set_cons_zero, List.set_cons_succ]
              refine' wpAnyZ_takeA (i := 18) (v := ?_) (opAt rfl) (by kernel_rfl) (by kernel_rfl) (by kernel_rfl) (by kernel_rfl) (fun _ _ _ h => h) (by assumption) (by rfl) (fun w hSw => ?_) ?_
              rotate_left
              · (try dsimp only at hSw); go_simp; (try rw [if_neg (by omega)]); (try with_reducible rfl)
              try simp only [Act.put, List.setIfInBounds_toArray, List.set_cons_zero, List.set_cons_succ]
              refine' wpAnyZ_takeA (i := 19) (v := ?_) (opAt rfl) (by kernel_rfl) (by kernel_rfl) (by kernel_rfl) (by kernel_rfl) (fun _ _ _ h => h) (by assumption) (by rfl) (fun w hSw => ?_) ?_
              rotate_left
              · (try dsimp only at hSw); go_simp; (try rw [if_neg (by omega)]); (try with_reducible rfl)
              try simp only [Act.put, List.setIfInBounds_toArray, List.set_cons_zero, List.set_cons_succ]
              refine' wpAnyZ_takeA (i := 21) (v := ?_) (opAt rfl) (by kernel_rfl) (by kernel_rfl) (by kernel_rfl) (by kernel_rfl) (fun _ _ _ h => h) (by assumption) (by rfl) (fun w hSw => ?_) ?_
              rotate_left
              · (try dsimp only at hSw); go_simp; (try rw [if_neg (by omega)]); (try with_reducible rfl)
              try simp only [Act.put, List.setIfInBounds_toArray, List.set_cons_zero, List.set_cons_succ]
              refine' wpAnyZ_takeA (i := 22) (v := ?_) (opAt rfl) (by kernel_rfl) (by kernel_rfl) (by kernel_rfl) (by kernel_rfl) (fun _ _ _ h => h) (by assumption) (by rfl) (fun w hSw => ?_) ?_
              rotate_left
              · (try dsimp only at hSw); go_simp; (try with_reducible rfl)
              try simp only [Act.put, List.setIfInBounds_toArray, List.set_cons_zero, List.set_cons_succ]
              refine wpAnyZ_done (by kernel_rfl) ?_ _
              have mc := fun i => bx.cell i
              clear bl
              go_wp2_with fail
              refine (RS.out _ B0).mono ?_
              rintro e w7 ⟨rfl, hb1⟩
              replace B0 := B0.trans (hb1.mono (Nat.le_of_lt bx.lt))
              clear hb1 mc
              go_wp2_with fail
              go_ret
              exact ⟨by rw [HE.out]; rfl, by rw [HGW.out]; exact B0⟩
            exact AllReadyZ.nil
          exact AllReadyZ.nil
        exact AllReadyZ.nil
      exact AllReadyZ.nil
    exact AllReadyZ.nil
set_option maxRecDepth 100000 in
set_option maxHeartbeats 4000000 in
theorem rdev_x (kd th id at_ k : Int) (key vl hi : Nat) (mo rk : Int) (rv : Nat) (A0 : Option Addr) (N cm : Nat) (R9 : ByteArray) (w : World) (hkd : I64 kd) (qk : (kd == 2) = false) (h1 : I64 th) (h2 : I64 id) (h3 : I64 at_) (h4 : key < 18446744073709551616) (h5 : vl < 18446744073709551616) (h6 : hi < 18446744073709551616) (h7 : I64 mo) (hz9 : R9.size ≤ 7000)
    (HRS : ∀ w2, Below w.heap.size w w2 → Calls Tryz.prog 19 #[.agg #[.int .i64 rk, .int .u64 (rv : Nat), .slice A0 N cm]] w2 fun e w' => e = .returned (.string R9) ∧ Below w2.heap.size w2 w') :
    Calls Tryz.prog 17 #[.agg #[.int .i64 kd, .int .i64 th, .int .i64 id, .int .i64 at_, .int .i64 k, .int .u64 (key : Nat), .int .u64 (vl : Nat), .int .u64 (hi : Nat), .int .i64 mo, .int .i64 rk, .int .u64 (rv : Nat), .slice A0 N cm]] w fun e w' => e = .returned (.string (joinT (evW kd th id at_ (opN k key vl hi mo) R9))) ∧ Below w.heap.size w w' := by
  obtain ⟨i0, hi0, hz0, hs0, hb0⟩ := info_parts infoStr
  have B0 := (Below.refl w.heap.size w).alloc (Nat.le_refl _) (.cells #[.int .i64 kd, .int .i64 th, .int .i64 id, .int .i64 at_, .int .i64 k, .int .u64 (key : Nat), .int .u64 (vl : Nat), .int .u64 (hi : Nat), .int .i64 mo, .int .i64 rk, .int .u64 (rv : Nat), .slice A0 N cm] 50)
  have bx := Blk.new w 50 #[.int .i64 kd, .int .i64 th, .int .i64 id, .int .i64 at_, .int .i64 k, .int .u64 (key : Nat), .int .u64 (vl : Nat), .int .u64 (hi : Nat), .int .i64 mo, .int .i64 rk, .int .u64 (rv : Nat), .slice A0 N cm]
  have mc := fun i => bx.cell i
  have RS := hide HRS
  have OP := hide (fun w2  => rop_any k key vl hi mo w2 h4 h5 h6 h7)
  have I1 := hide (fun w2 => rint_any id w2 h2)
  have I2 := hide (fun w2 => rint_any th w2 h1)
  have I3 := hide (fun w2 => rint_any at_ w2 h3)
  rw [show strOfNums (intL id) = intT id from rfl] at I1
  rw [show strOfNums (intL th) = intT th from rfl] at I2
  rw [show strOfNums (intL at_) = intT at_ from rfl] at I3
  have NM := hide (fun b w2 (hb : Blk w2 b 9 (strs evL).toArray) => rname_any b 2 evL kd w2 hkd hb)
  rw [show (strs evL).toArray = #[.string ⟨#[105, 110, 118, 111, 107, 101]⟩, .string ⟨#[114, 101, 115, 112, 111, 110, 100]⟩] from rfl, show evL.length = 2 from rfl] at NM
  have s1 := intT_size id
  have s2 := intT_size th
  have s3 := intT_size at_
  have s4 := nmd_size (n := 10) (by omega) evL_size kd
  have s5 := opN_size k key vl hi mo
  have HSZ := hide (evW_size kd th id at_ (opN k key vl hi mo) R9 s5 hz9)
  have HOE := hide (show opN k key vl hi mo = if opT k key vl hi mo = ⟨#[]⟩ then none1 else opT k key vl hi mo from rfl)
  have hWE : evW kd th id at_ (opN k key vl hi mo) R9 = [nmd evL kd, intT id, threadB, intT th, atB, intT at_, opN k key vl hi mo] ++ [] := by unfold evW; rw [if_neg (by simpa using qk)]
  rw [hWE] at HSZ ⊢
  generalize opN k key vl hi mo = o2 at *
  generalize hoo : opT k key vl hi mo = oo at *
  generalize nmd evL kd = nm at *
  generalize intT id = ti at *
  generalize intT th = tt at *
  generalize intT at_ = ta at *
  clear hkd h1 h2 h3 h4 h5 h6 h7 hoo hWE HRS
  obtain ⟨Q, hQ⟩ : ∃ Q, Q = joinT ([nm, ti, threadB, tt, atB, ta, o2] ++ []) := ⟨_, rfl⟩
  rw [← hQ] at HSZ ⊢
  have HQ := hide hQ
  clear hQ
  go_enter Tryz.func17, Tryz.ntmps17
  go_wp2_with fail
  refine (OP.out _).mono ?_
  rintro e w1 ⟨rfl, hb1⟩
  replace B0 := B0.trans (hb1.mono (Nat.le_of_lt bx.lt))
  replace bx := bx.below hb1 bx.lt
  clear hb1 mc
  generalize hgw : w.heap.size = g at *
  have HGW := hide hgw
  clear hgw
  go_upto_if 9 with fail
  go_cut [3] from 8 to 9 (DevC g #[.int .i64 kd, .int .i64 th, .int .i64 id, .int .i64 at_, .int .i64 k, .int .u64 (key : Nat), .int .u64 (vl : Nat), .int .u64 (hi : Nat), .int .i64 mo, .int .i64 rk, .int .u64 (rv : Nat), .slice A0 N cm] w o2)
  case first =>
    cases hb : oo.toList.isEmpty
    case true =>
      have ho2 : o2 = none1 := HOE.out.trans (if_pos ((ba_empty_iff oo).1 hb))
      have HO2 := hide ho2
      clear ho2 hb
      go_wp2_with fail
      go_meet
      exact ⟨by rw [HO2.out]; rfl, bx, B0⟩
    case false =>
      have ho2 : o2 = oo := HOE.out.trans (if_neg (fun e => by rw [(ba_empty_iff oo).2 e] at hb; cases hb))
      have HO2 := hide ho2
      clear ho2 hb
      go_wp2_with fail
      go_meet
      exact ⟨by rw [HO2.out], bx, B0⟩
  case rest =>
    clear bx B0
    obtain ⟨rfl, bx, B0⟩ := hcut
    go_wp2_with fail
    have HE := hide (show Q = nm ++ ⟨#[32]⟩ ++ ti ++ ⟨#[32, 116, 104, 114, 101, 97, 100, 32]⟩ ++ tt ++ ⟨#[32, 97, 116, 32]⟩ ++ ta ++ ⟨#[32]⟩ ++ o2 by
      rw [HQ.out, List.cons_append, joinT_fold, sp_thread, sp_at]
      simp only [List.append_nil, List.foldl_cons, List.foldl_nil, ba_assoc]
      rfl)
    clear HQ
    refine wp_region_heldZ [] (fun w' => w'.cell? ⟨g, 0, none⟩ = some (.int .i64 kd) ∧ w'.cell? ⟨g, 1, none⟩ = some (.int .i64 th) ∧ w'.cell? ⟨g, 2, none⟩ = some (.int .i64 id) ∧ w'.cell? ⟨g, 3, none⟩ = some (.int .i64 at_)) (by kernel_rfl) (by exact ⟨bx.cell 0, bx.cell 1, bx.cell 2, bx.cell 3⟩) (fun hHeld => ?_)
    replace bx := bx.drew
    replace B0 := B0.drew
    generalize wc.drew = wd at *
    refine' wpAnyZ_takeA (i := 1) (v := ?_) (opAt rfl) (by kernel_rfl) (by kernel_rfl) (by kernel_rfl) (by kernel_rfl) (fun _ _ _ h => h) (by assumption) (by rfl) (fun w hSw => ?_) ?_
    rotate_left
    · (try dsimp only at hSw); go_simp; (try with_reducible rfl)
    try simp only [Act.put, List.setIfInBounds_toArray, List.set_cons_zero, List.set_cons_succ]
    refine' wpAnyZ_takeA (i := 2) (v := ?_) (opAt rfl) (by kernel_rfl) (by kernel_rfl) (by kernel_rfl) (by kernel_rfl) (fun _ _ _ h => h) (by assumption) (by rfl) (fun w hSw => ?_) ?_
    rotate_left
    · (try dsimp only at hSw); go_simp; (try with_reducible rfl)
    try simp only [Act.put, List.setIfInBounds_toArray, List.set_cons_zero, List.set_cons_succ]
    refine' wpAnyZ_takeA (i := 5) (v := ?_) (opAt rfl) (by kernel_rfl) (by kernel_rfl) (by kernel_rfl) (by kernel_rfl) (fun _ _ _ h => h) (by assumption) (by rfl) (fun w hSw => ?_) ?_
    rotate_left
    · (try dsimp only at hSw); go_simp; (try with_reducible rfl)
    try simp only [Act.put, List.setIfInBounds_toArray, List.set_cons_zero, List.set_cons_succ]
    refine' wpAnyZ_takeA (i := 6) (v := ?_) (opAt rfl) (by kernel_rfl) (by kernel_rfl) (by kernel_rfl) (by kernel_rfl) (fun _ _ _ h => h) (by assumption) (by rfl) (fun w hSw => ?_) ?_
    rotate_left
    · (try dsimp only at hSw); go_simp; (try with_reducible rfl)
    try simp only [Act.put, List.setIfInBounds_toArray, List.set_cons_zero, List.set_cons_succ]
    refine' wpAnyZ_takeA (i := 10) (v := ?_) (opAt rfl) (by kernel_rfl) (by kernel_rfl) (by kernel_rfl) (by kernel_rfl) (fun _ _ _ h => h) (by assumption) (by rfl) (fun w hSw => ?_) ?_
    rotate_left
    · (try dsimp only at hSw); go_simp; (try with_reducible rfl)
    try simp only [Act.put, List.setIfInBounds_toArray, List.set_cons_zero, List.set_cons_succ]
    refine' wpAnyZ_takeA (i := 11) (v := ?_) (opAt rfl) (by kernel_rfl) (by kernel_rfl) (by kernel_rfl) (by kernel_rfl) (fun _ _ _ h => h) (by assumption) (by rfl) (fun w hSw => ?_) ?_
    rotate_left
    · (try dsimp only at hSw); go_simp; (try with_reducible rfl)
    try simp only [Act.put, List.setIfInBounds_toArray, List.set_cons_zero, List.set_cons_succ]
    refine' wpAnyZ_takeA (i := 15) (v := ?_) (opAt rfl) (by kernel_rfl) (by kernel_rfl) (by kernel_rfl) (by kernel_rfl) (fun _ _ _ h => h) (by assumption) (by rfl) (fun w hSw => ?_) ?_
    rotate_left
    · (try dsimp only at hSw); go_simp; (try with_reducible rfl)
    try simp only [Act.put, List.setIfInBounds_toArray, List.set_cons_zero, List.set_cons_succ]
    refine' wpAnyZ_takeA (i := 16) (v := ?_) (opAt rfl) (by kernel_rfl) (by kernel_rfl) (by kernel_rfl) (by kernel_rfl) (fun _ _ _ h => h) (by assumption) (by rfl) (fun w hSw => ?_) ?_
    rotate_left
    · (try dsimp only at hSw); go_simp; (try with_reducible rfl)
    try simp only [Act.put, List.setIfInBounds_toArray, List.set_cons_zero, List.set_cons_succ]
    refine' wpAnyZ_takeA (i := 20) (v := ?_) (opAt rfl) (by kernel_rfl) (by kernel_rfl) (by kernel_rfl) (by kernel_rfl) (fun _ _ _ h => h) (by assumption) (by rfl) (fun w hSw => ?_) ?_
    rotate_left
    · (try dsimp only at hSw); go_simp; (try with_reducible rfl)
    try simp only [Act.put, List.setIfInBounds_toArray, List.set_cons_zero, List.set_cons_succ]
    refine wpAnyZ_ready (rs := [0]) (by kernel_rfl) (by simp) ?_
    refine AllReadyZ.cons (opAt rfl) (fun K hK => ?_) ?_
    · skip
      go_simp
      have bl := Blk.new wd 9 #[.string ⟨#[105, 110, 118, 111, 107, 101]⟩, .string ⟨#[114, 101, 115, 112, 111, 110, 100]⟩]
      have hsz : g ≤ wd.heap.size := Nat.le_of_lt bx.lt
      replace bx := bx.alloc (.cells #[.string ⟨#[105, 110, 118, 111, 107, 101]⟩, .string ⟨#[114, 101, 115, 112, 111, 110, 100]⟩] 9)
      replace B0 := B0.alloc hsz (.cells #[.string ⟨#[105, 110, 118, 111, 107, 101]⟩, .string ⟨#[114, 101, 115, 112, 111, 110, 100]⟩] 9)
      generalize wd.alloc (.cells #[.string ⟨#[105, 110, 118, 111, 107, 101]⟩, .string ⟨#[114, 101, 115, 112, 111, 110, 100]⟩] 9) = w2 at *
      clear hsz
      refine hK.out _ _ (by exact ⟨bx.cell 0, bx.cell 1, bx.cell 2, bx.cell 3⟩) (fun hHeld => ?_)
      clear hK K
      try simp only [Act.put, List.setIfInBounds_toArray, List.set_cons_zero, List.set_cons_succ]
      refine wpAnyZ_ready (rs := [3]) (by kernel_rfl) (by simp) ?_
      refine AllReadyZ.cons (opAt rfl) (fun K hK => ?_) ?_
      · skip
        go_simp
        refine (NM.out _ _ bl).mono ?_
        rintro e w9 ⟨rfl, rfl⟩
        try go_wp2_with fail
        refine hK.out _ _ (by exact ⟨bx.cell 0, bx.cell 1, bx.cell 2, bx.cell 3⟩) (fun hHeld => ?_)
        clear hK K
        try simp only [Act.put, List.setIfInBounds_toArray, List.set_cons_zero, List.set_cons_succ]
        refine' wpAnyZ_takeA (i := 4) (v := ?_) (opAt rfl) (by kernel_rfl) (by kernel_rfl) (by kernel_rfl) (by kernel_rfl) (fun _ _ _ h => h) (by assumption) (by rfl) (fun w hSw => ?_) ?_
        rotate_left
        · (try dsimp only at hSw); go_simp; (try rw [if_neg (by omega)]); (try with_reducible rfl)
        try simp only [Act.put, List.setIfInBounds_toArray, List.set_cons_zero, List.set_cons_succ]
        refine wpAnyZ_ready (rs := [7]) (by kernel_rfl) (by simp) ?_
        refine AllReadyZ.cons (opAt rfl) (fun K hK => ?_) ?_
        · skip
          go_simp
          refine (I1.out _).mono ?_
          rintro e w3 ⟨rfl, hb1⟩
          replace B0 := B0.trans (hb1.mono (Nat.le_of_lt bx.lt))
          replace bx := bx.below hb1 bx.lt
          clear hb1
          try go_wp2_with fail
          refine hK.out _ _ (by exact ⟨bx.cell 0, bx.cell 1, bx.cell 2, bx.cell 3⟩) (fun hHeld => ?_)
          clear hK K
          try simp only [Act.put, List.setIfInBounds_toArray, List.set_cons_zero, List.set_cons_succ]
          refine' wpAnyZ_takeA (i := 8) (v := ?_) (opAt rfl) (by kernel_rfl) (by kernel_rfl) (by kernel_rfl) (by kernel_rfl) (fun _ _ _ h => h) (by assumption) (by rfl) (fun w hSw => ?_) ?_
          rotate_left
          · (try dsimp only at hSw); go_simp; (try rw [if_neg (by omega)]); (try with_reducible rfl)
          try simp only [Act.put, List.setIfInBounds_toArray, List.set_cons_zero, List.set_cons_succ]
          refine' wpAnyZ_takeA (i := 9) (v := ?_) (opAt rfl) (by kernel_rfl) (by kernel_rfl) (by kernel_rfl) (by kernel_rfl) (fun _ _ _ h => h) (by assumption) (by rfl) (fun w hSw => ?_) ?_
          rotate_left
          · (try dsimp only at hSw); go_simp; (try rw [if_neg (by omega)]); (try with_reducible rfl)
          try simp only [Act.put, List.setIfInBounds_toArray, List.set_cons_zero, List.set_cons_succ]
          refine wpAnyZ_ready (rs := [12]) (by kernel_rfl) (by simp) ?_
          refine AllReadyZ.cons (opAt rfl) (fun K hK => ?_) ?_
          · skip
            go_simp
            refine (I2.out _).mono ?_
            rintro e w4 ⟨rfl, hb1⟩
            replace B0 := B0.trans (hb1.mono (Nat.le_of_lt bx.lt))
            replace bx := bx.below hb1 bx.lt
            clear hb1
            try go_wp2_with fail
            refine hK.out _ _ (by exact ⟨bx.cell 0, bx.cell 1, bx.cell 2, bx.cell 3⟩) (fun hHeld => ?_)
            clear hK K
            try simp only [Act.put, List.setIfInBounds_toArray, List.set_cons_zero, List.set_cons_succ]
            refine' wpAnyZ_takeA (i := 13) (v := ?_) (opAt rfl) (by kernel_rfl) (by kernel_rfl) (by kernel_rfl) (by kernel_rfl) (fun _ _ _ h => h) (by assumption) (by rfl) (fun w hSw => ?_) ?_
            rotate_left
            · (try dsimp only at hSw); go_simp; (try rw [if_neg (by omega)]); (try with_reducible rfl)
            try simp only [Act.put, List.setIfInBounds_toArray, List.set_cons_zero, List.set_cons_succ]
            refine' wpAnyZ_takeA (i := 14) (v := ?_) (opAt rfl) (by kernel_rfl) (by kernel_rfl) (by kernel_rfl) (by kernel_rfl) (fun _ _ _ h => h) (by assumption) (by rfl) (fun w hSw => ?_) ?_
            rotate_left
            · (try dsimp only at hSw); go_simp; (try rw [if_neg (by omega)]); (try with_reducible rfl)
            try simp only [Act.put, List.setIfInBounds_toArray, List.set_cons_zero, List.set_cons_succ]
            refine wpAnyZ_ready (rs := [17]) (by kernel_rfl) (by simp) ?_
            refine AllReadyZ.cons (opAt rfl) (fun K hK => ?_) ?_
            · skip
              go_simp
              refine (I3.out _).mono ?_
              rintro e w5 ⟨rfl, hb1⟩
              replace B0 := B0.trans (hb1.mono (Nat.le_of_lt bx.lt))
              replace bx := bx.below hb1 bx.lt
              clear hb1
              try go_wp2_with fail
              refine hK.out _ _ (by exact ⟨bx.cell 0, bx.cell 1, bx.cell 2, bx.cell 3⟩) (fun hHeld => ?_)
              clear hK K
              try simp only [Act.put, List.setIfInBounds_toArray, List.set_cons_zero, List.set_cons_succ]
              refine' wpAnyZ_takeA (i := 18) (v := ?_) (opAt rfl) (by kernel_rfl) (by kernel_rfl) (by kernel_rfl) (by kernel_rfl) (fun _ _ _ h => h) (by assumption) (by rfl) (fun w hSw => ?_) ?_
              rotate_left
              · (try dsimp only at hSw); go_simp; (try rw [if_neg (by omega)]); (try with_reducible rfl)
              try simp only [Act.put, List.setIfInBounds_toArray, List.set_cons_zero, List.set_cons_succ]
              refine' wpAnyZ_takeA (i := 19) (v := ?_) (opAt rfl) (by kernel_rfl) (by kernel_rfl) (by kernel_rfl) (by kernel_rfl) (fun _ _ _ h => h) (by assumption) (by rfl) (fun w hSw => ?_) ?_
              rotate_left
              · (try dsimp only at hSw); go_simp; (try rw [if_neg (by omega)]); (try with_reducible rfl)
              try simp only [Act.put, List.setIfInBounds_toArray, List.set_cons_zero, List.set_cons_succ]
              refine' wpAnyZ_takeA (i := 21) (v := ?_) (opAt rfl) (by kernel_rfl) (by kernel_rfl) (by kernel_rfl) (by kernel_rfl) (fun _ _ _ h => h) (by assumption) (by rfl) (fun w hSw => ?_) ?_
              rotate_left
              · (try dsimp only at hSw); go_simp; (try rw [if_neg (by omega)]); (try with_reducible rfl)
              try simp only [Act.put, List.setIfInBounds_toArray, List.set_cons_zero, List.set_cons_succ]
              refine' wpAnyZ_takeA (i := 22) (v := ?_) (opAt rfl) (by kernel_rfl) (by kernel_rfl) (by kernel_rfl) (by kernel_rfl) (fun _ _ _ h => h) (by assumption) (by rfl) (fun w hSw => ?_) ?_
              rotate_left
              · (try dsimp only at hSw); go_simp; (try with_reducible rfl)
              try simp only [Act.put, List.setIfInBounds_toArray, List.set_cons_zero, List.set_cons_succ]
              refine wpAnyZ_done (by kernel_rfl) ?_ _
              have mc := fun i => bx.cell i
              clear bl
              go_wp2_with fail
              go_ret
              exact ⟨by rw [HE.out]; rfl, by rw [HGW.out]; exact B0⟩
            exact AllReadyZ.nil
          exact AllReadyZ.nil
        exact AllReadyZ.nil
      exact AllReadyZ.nil
    exact AllReadyZ.nil
set_option maxRecDepth 100000 in
set_option maxHeartbeats 4000000 in
theorem lines_event (A : Option Addr) (n c : Nat) (l : List EvR) (w : World) (hr : Reads w w.heap.size 12 A n (l.flatMap EvR.cells)) (hn : n ≤ 5000)
    (LN : ∀ s ∈ l, ∀ w2, Below w.heap.size w w2 → Calls Tryz.prog 16 #[.agg (EvR.cells s).toArray] w2 fun e w' => e = .returned (.string (EvR.text s)) ∧ Below w2.heap.size w2 w') (hs : ∀ s ∈ l, (EvR.text s).size ≤ 60000) :
    Calls Tryz.prog 65 #[.slice A n c, .func (.func 16) #[] #[]] w fun e w' => e = .returned (.string (linesT (l.map (EvR.text)))) ∧ Below w.heap.size w w' := by
  have hl : l.length = n := hr.lenRec EvR.cells_len (by omega)
  have HL := hide hl
  have HR := hide hr
  have HLN := hide LN
  have HS := hide hs
  have hcf : ∀ args w', (callFunc 16 args).run Tryz.prog w' = .ok (.enter 16 args) w' := fun args w' => run_enter Tryz.func16 (by decide) (by simp [Tryz.f16]) args w'
  obtain ⟨ts, hts⟩ : ∃ ts, ts = l.map (EvR.text) := ⟨_, rfl⟩
  have HTS := hide hts
  have HZ := hide (fun j : Nat => linesT_size 60000 (ts.take j) (fun x hx => by
    rw [hts] at hx
    obtain ⟨s, h1, rfl⟩ := List.mem_map.1 (List.mem_of_mem_take hx)
    exact hs s h1))
  have HTL := hide (show ts.length = n by rw [hts, List.length_map, hl])
  rw [← hts]
  clear hts hl hr LN hs
  go_enter Tryz.func65, Tryz.ntmps65
  go_wp2_with fail
  go_loopw [10] (LnI w.heap.size n ts w) (fun v _ => n - (intOf v).toNat)
  case atStart => exact ⟨0, rfl, by omega, Lib.IsBuilderF.of (Lib.fresh_isBuilder 120 5 w), (Below.refl _ w).alloc (Nat.le_refl _) _⟩
  case round =>
    obtain ⟨j, rfl, hj, IB, B0⟩ := hrel
    have hlt0 := builder_lt IB
    generalize hgw : w.heap.size = g at *
    have HGW := hide hgw
    clear hgw
    by_cases hlt : j < n
    · obtain ⟨ad, s, hA, hab, hsj, z0, zz⟩ := (HR.out.below B0).recAt EvR.cells_len (by omega) hlt
      have z1 := zz 1 (by omega) (by omega)
      have z2 := zz 2 (by omega) (by omega)
      have z3 := zz 3 (by omega) (by omega)
      have z4 := zz 4 (by omega) (by omega)
      have z5 := zz 5 (by omega) (by omega)
      have z6 := zz 6 (by omega) (by omega)
      have z7 := zz 7 (by omega) (by omega)
      have z8 := zz 8 (by omega) (by omega)
      have z9 := zz 9 (by omega) (by omega)
      have z10 := zz 10 (by omega) (by omega)
      have z11 := zz 11 (by omega) (by omega)
      clear zz hab
      subst hA
      have hmem := List.mem_of_getElem? hsj
      have LNs := hide (HLN.out s hmem)
      have s7 := HS.out s hmem
      have htj : ts[j]? = some (EvR.text s) := by rw [HTS.out, List.getElem?_map, hsj]; rfl
      have HSN := hide (show linesT (ts.take (j + 1)) = linesT (ts.take j) ++ _ ++ nl1 from by rw [take_snoc htj, linesT_snoc])
      have hz := HZ.out j
      have hzl : (ts.take j).length ≤ 5000 := by rw [List.length_take, HTL.out]; omega
      have HLEN := hide (show (Lib.strCells (linesT (ts.take j))).length + (EvR.text s ++ nl1).size ≤ 140737488355328 from by rw [Lib.strCells_length, ba_size]; have h1 : nl1.size = 1 := rfl; have hz2 := Nat.mul_le_mul_right (60000 + 1) hzl; omega)
      clear hz hzl
      generalize EvR.text s = tx at *
      clear hmem hsj htj
      obtain ⟨kd, th, id, at_, k, key, vl, hi, mo, rk, rv, ps, A0, cm⟩ := s
      replace z0 : wr.cell? (ad.add (j * 12)) = some (.int .i64 kd) := z0
      replace z1 : wr.cell? ⟨(ad.add (j * 12)).block, (ad.add (j * 12)).off + 1, none⟩ = some (.int .i64 th) := z1
      replace z2 : wr.cell? ⟨(ad.add (j * 12)).block, (ad.add (j * 12)).off + 2, none⟩ = some (.int .i64 id) := z2
      replace z3 : wr.cell? ⟨(ad.add (j * 12)).block, (ad.add (j * 12)).off + 3, none⟩ = some (.int .i64 at_) := z3
      replace z4 : wr.cell? ⟨(ad.add (j * 12)).block, (ad.add (j * 12)).off + 4, none⟩ = some (.int .i64 k) := z4
      replace z5 : wr.cell? ⟨(ad.add (j * 12)).block, (ad.add (j * 12)).off + 5, none⟩ = some (.int .u64 (key : Nat)) := z5
      replace z6 : wr.cell? ⟨(ad.add (j * 12)).block, (ad.add (j * 12)).off + 6, none⟩ = some (.int .u64 (vl : Nat)) := z6
      replace z7 : wr.cell? ⟨(ad.add (j * 12)).block, (ad.add (j * 12)).off + 7, none⟩ = some (.int .u64 (hi : Nat)) := z7
      replace z8 : wr.cell? ⟨(ad.add (j * 12)).block, (ad.add (j * 12)).off + 8, none⟩ = some (.int .i64 mo) := z8
      replace z9 : wr.cell? ⟨(ad.add (j * 12)).block, (ad.add (j * 12)).off + 9, none⟩ = some (.int .i64 rk) := z9
      replace z10 : wr.cell? ⟨(ad.add (j * 12)).block, (ad.add (j * 12)).off + 10, none⟩ = some (.int .u64 (rv : Nat)) := z10
      replace z11 : wr.cell? ⟨(ad.add (j * 12)).block, (ad.add (j * 12)).off + 11, none⟩ = some (.slice A0 ps.length cm) := z11
      have bx := Blk.new wr 50 #[.int .i64 kd, .int .i64 th, .int .i64 id, .int .i64 at_, .int .i64 k, .int .u64 (key : Nat), .int .u64 (vl : Nat), .int .u64 (hi : Nat), .int .i64 mo, .int .i64 rk, .int .u64 (rv : Nat), .slice A0 ps.length cm]
      have mc := fun i => bx.cell i
      replace IB := IB.alloc (.cells #[.int .i64 kd, .int .i64 th, .int .i64 id, .int .i64 at_, .int .i64 k, .int .u64 (key : Nat), .int .u64 (vl : Nat), .int .u64 (hi : Nat), .int .i64 mo, .int .i64 rk, .int .u64 (rv : Nat), .slice A0 ps.length cm] 50)
      replace B0 := B0.alloc (Nat.le_of_lt hlt0) (.cells #[.int .i64 kd, .int .i64 th, .int .i64 id, .int .i64 at_, .int .i64 k, .int .u64 (key : Nat), .int .u64 (vl : Nat), .int .u64 (hi : Nat), .int .i64 mo, .int .i64 rk, .int .u64 (rv : Nat), .slice A0 ps.length cm] 50)
      have LN2 := hide (show ∀ w2, Below g w w2 → Calls Tryz.prog 16 #[.agg #[.int .i64 kd, .int .i64 th, .int .i64 id, .int .i64 at_, .int .i64 k, .int .u64 (key : Nat), .int .u64 (vl : Nat), .int .u64 (hi : Nat), .int .i64 mo, .int .i64 rk, .int .u64 (rv : Nat), .slice A0 ps.length cm]] w2 fun e w' => e = .returned (.string tx) ∧ Below w2.heap.size w2 w' from LNs.out)
      clear LNs hlt0
      have hltz : (j : Int) < (n : Int) := by omega
      go_wp2_with fail
      refine (LN2.out _ B0).mono ?_
      rintro e w7 ⟨rfl, hb1⟩
      replace B0 := B0.trans (hb1.mono (Nat.le_of_lt (builder_lt IB)))
      replace IB := builder_below IB hb1
      have hlt0 := builder_lt IB
      clear hb1 bx mc z0 z1 z2 z3 z4 z5 z6 z7 z8 z9 z10 z11
      go_wp2_with fail
      have BW := hide (bwrite_any g g _ (tx ++ nl1) w7 IB HLEN.out (Nat.le_of_lt hlt0))
      rw [show nl1 = ⟨#[10]⟩ from rfl] at BW
      generalize hLC : Lib.strCells (linesT (ts.take j)) = lc at *
      have HLC := hide hLC
      clear hLC
      refine (BW.out).mono ?_
      rintro e w8 ⟨rfl, h1, hb1, _⟩
      replace B0 := B0.trans hb1
      rw [← HLC.out, ← strCells_app, ← ba_assoc, show (⟨#[10]⟩ : ByteArray) = nl1 from rfl] at h1
      have HT := hide h1
      clear h1 hb1 IB
      go_wp2_with fail
      go_roundw
      case rel => exact ⟨j + 1, by go_num, by omega, Or.inr (by rw [HSN.out]; exact HT.out), B0⟩
      case measure => simp [intOf]; omega
    · obtain rfl : j = n := by omega
      have htk : ts.take j = ts := List.take_of_length_le (by rw [HTL.out]; exact Nat.le_refl _)
      rw [htk] at IB
      rw [Lib.strCells_eq] at IB
      have BS := hide (bstring_any g g (linesT ts).data.toList wr IB (Nat.le_of_lt hlt0))
      rw [ba_self] at BS
      clear htk IB
      generalize hQ : linesT ts = Q at *
      have HQ := hide hQ
      clear hQ
      go_wp2_with fail
      refine (BS.out).mono ?_
      rintro e w9 ⟨rfl, hb1⟩
      go_wp2_with fail
      go_ret
      exact ⟨by rw [HQ.out]; rfl, by rw [HGW.out]; exact B0.trans hb1⟩
set_option maxHeartbeats 400000 in
theorem devents_any (A : Option Addr) (n c : Nat) (l : List EvR) (w : World) (hr : Reads w w.heap.size 12 A n (l.flatMap EvR.cells)) (hn : n ≤ 5000)
    (LN : ∀ s ∈ l, ∀ w2, Below w.heap.size w w2 → Calls Tryz.prog 16 #[.agg (EvR.cells s).toArray] w2 fun e w' => e = .returned (.string (EvR.text s)) ∧ Below w2.heap.size w2 w') (hs : ∀ s ∈ l, (EvR.text s).size ≤ 60000) :
    Calls Tryz.prog 20 #[.slice A n c] w fun e w' => e = .returned (.string (linesT (l.map EvR.text))) ∧ Below w.heap.size w w' := by
  have F := hide (lines_event A n c l w hr hn LN hs)
  generalize linesT (l.map EvR.text) = Q at *
  clear hr LN hs
  go_enter Tryz.func20, Tryz.ntmps20
  go_wp2_with fail
  refine F.out.mono ?_
  rintro e w1 ⟨rfl, hb1⟩
  go_wp2_with fail
  go_ret
  exact ⟨rfl, hb1⟩
end Go.Proofs.YtlnckjemfabckaaGreatDoor

/-
  DumpEvents: the walk.
-/
namespace Go.Proofs.YtlnckjemfabckaaGreatDoor
open Go.RowKit

structure EvOk (w : World) (s : EvR) : Prop where
  h0 : I64 s.kd
  h1 : I64 s.th
  h2 : I64 s.id
  h3 : I64 s.at_
  h4 : s.key < 18446744073709551616
  h5 : s.vl < 18446744073709551616
  h6 : s.hi < 18446744073709551616
  h7 : I64 s.mo
  h8 : I64 s.rk
  h9 : s.rv < 18446744073709551616
  hp : ∀ p ∈ s.ps, PairOk p
  hr : Reads w w.heap.size 2 s.A s.ps.length (s.ps.flatMap PairR.cells)
theorem EvOk.below {w w' : World} {s : EvR} (h : EvOk w s) (hb : Below w.heap.size w w') : EvOk w' s := ⟨h.h0, h.h1, h.h2, h.h3, h.h4, h.h5, h.h6, h.h7, h.h8, h.h9, h.hp, (h.hr.below hb).more hb.size⟩
theorem evres_any (s : EvR) (w : World) (h : EvOk w s) (hl : s.ps.length ≤ 50) :
    Calls Tryz.prog 18 #[.agg #[.int .i64 s.rk, .int .u64 (s.rv : Nat), .slice s.A s.ps.length s.c]] w fun e w' => e = .returned (.string (resT s.rk s.rv s.ps)) ∧ Below w.heap.size w w' :=
  dres_any s.rk s.rv s.ps s.A s.c w h.h9 h.hp hl h.hr
theorem revres_any (s : EvR) (w : World) (h : EvOk w s) (hl : s.ps.length ≤ 50) :
    Calls Tryz.prog 19 #[.agg #[.int .i64 s.rk, .int .u64 (s.rv : Nat), .slice s.A s.ps.length s.c]] w fun e w' => e = .returned (.string (resT s.rk s.rv s.ps)) ∧ Below w.heap.size w w' :=
  rres_any s.rk s.rv s.ps s.A s.c w h.h8 h.h9 h.hp hl h.hr
theorem dev_any (s : EvR) (w : World) (hT : Tab w) (h : EvOk w s) (hl : s.ps.length ≤ 50) :
    Calls Tryz.prog 16 #[.agg (EvR.cells s).toArray] w fun e w' => e = .returned (.string (EvR.text s)) ∧ Below w.heap.size w w' := by
  have HR := fun w2 (hb : Below w.heap.size w w2) => evres_any s w2 (h.below hb) hl
  have hz := resT_size s.rk s.rv s.ps hl
  obtain ⟨kd, th, id, at_, k, key, vl, hi, mo, rk, rv, ps, A, c⟩ := s
  obtain ⟨h0, h1, h2, h3, h4, h5, h6, h7, h8, h9, hp, hr⟩ := h
  dsimp only at h0 h1 h2 h3 h4 h5 h6 h7 h8 h9 hp hr hl HR hz
  by_cases e2 : kd = 2
  · subst e2
    exact dev_2 th id at_ k key vl hi mo rk rv A ps.length c _ w hT h1 h2 h3 h4 h5 h6 h7 hz HR
  · exact dev_x kd th id at_ k key vl hi mo rk rv A ps.length c _ w hT h0 (by simpa using e2) h1 h2 h3 h4 h5 h6 h7 hz HR
theorem rdev_any (s : EvR) (w : World) (h : EvOk w s) (hl : s.ps.length ≤ 50) :
    Calls Tryz.prog 17 #[.agg (EvR.cells s).toArray] w fun e w' => e = .returned (.string (EvR.text s)) ∧ Below w.heap.size w w' := by
  have HR := fun w2 (hb : Below w.heap.size w w2) => revres_any s w2 (h.below hb) hl
  have hz := resT_size s.rk s.rv s.ps hl
  obtain ⟨kd, th, id, at_, k, key, vl, hi, mo, rk, rv, ps, A, c⟩ := s
  obtain ⟨h0, h1, h2, h3, h4, h5, h6, h7, h8, h9, hp, hr⟩ := h
  dsimp only at h0 h1 h2 h3 h4 h5 h6 h7 h8 h9 hp hr hl HR hz
  by_cases e2 : kd = 2
  · subst e2
    exact rdev_2 th id at_ k key vl hi mo rk rv A ps.length c _ w h1 h2 h3 h4 h5 h6 h7 hz HR
  · exact rdev_x kd th id at_ k key vl hi mo rk rv A ps.length c _ w h0 (by simpa using e2) h1 h2 h3 h4 h5 h6 h7 hz HR
set_option maxRecDepth 100000 in
set_option maxHeartbeats 1000000 in
theorem events_far (A : Option Addr) (n c : Nat) (w : World) (hT : Tab w) (h : (60 : Int) < n) :
    Calls Tryz.prog 4 #[.slice A n c] w fun e w' => e = .returned (.bool true) ∧ Below w.heap.size w w' := by
  have AW := hide (awake38 w hT)
  clear hT
  go_enter Tryz.func4, Tryz.ntmps4
  go_wp2_with fail
  refine AW.out.mono ?_
  rintro e w1 ⟨rfl, hb1⟩
  go_wp2_with fail
  go_ret
  exact ⟨rfl, hb1⟩
def DeO (N : Nat) (l : List EvR) (w : World) (v3 v4 : Value) (wr : World) : Prop :=
  ∃ (i : Nat), v4 = .int .i64 i ∧ i ≤ N ∧ v3 = .string (linesT ((l.take i).map EvR.text)) ∧ (∀ s ∈ l.take i, s.ps.length ≤ 50) ∧ Below w.heap.size w wr
set_option maxRecDepth 100000 in
set_option maxHeartbeats 4000000 in
theorem events_yes (A : Option Addr) (n c : Nat) (l : List EvR) (w : World) (hT : Tab w) (h : ¬ (60 : Int) < n) (hr : Reads w w.heap.size 12 A n (l.flatMap EvR.cells)) (hok : ∀ s ∈ l, EvOk w s) :
    Calls Tryz.prog 4 #[.slice A n c] w fun e w' => e = .returned (.bool true) ∧ Below w.heap.size w w' := by
  have hl : l.length = n := hr.lenRec EvR.cells_len (by omega)
  have AW := hide (fun w2 (hb : Below w.heap.size w w2) => awake38 w2 (hT.below hb))
  have DS := hide (fun (hs : ∀ s ∈ l, s.ps.length ≤ 50) w2 (hb : Below w.heap.size w w2) => devents_any A n c l w2 ((hr.below hb).more hb.size) (by omega) (fun s hm w3 hb3 => dev_any s w3 ((hT.below hb).below hb3) (((hok s hm).below hb).below hb3) (hs s hm)) (fun s hm => EvR.text_size s (hs s hm)))
  have DT := hide (fun s (hs : s ∈ l) (hl2 : s.ps.length ≤ 50) w2 (hb : Below w.heap.size w w2) => dev_any s w2 (hT.below hb) ((hok s hs).below hb) hl2)
  have RT := hide (fun s (hs : s ∈ l) (hl2 : s.ps.length ≤ 50) w2 (hb : Below w.heap.size w w2) => rdev_any s w2 ((hok s hs).below hb) hl2)
  have DR := hide (fun s (hs : s ∈ l) (hl2 : s.ps.length ≤ 50) w2 (hb : Below w.heap.size w w2) => evres_any s w2 ((hok s hs).below hb) hl2)
  have RR := hide (fun s (hs : s ∈ l) (hl2 : s.ps.length ≤ 50) w2 (hb : Below w.heap.size w w2) => revres_any s w2 ((hok s hs).below hb) hl2)
  have HR := hide hr
  have HL := hide hl
  have hn : n ≤ 60 := by omega
  clear hT hr hok hl
  go_enter Tryz.func4, Tryz.ntmps4
  go_wp2_with fail
  go_loopw [3, 4] (DeO n l w) (fun _ v _ => n - (intOf v).toNat)
  case atStart => exact ⟨0, rfl, by omega, rfl, by simp, Below.refl _ _⟩
  case round =>
    obtain ⟨i, rfl, hi, rfl, hsm, B0⟩ := hrel
    have HSM := hide hsm
    clear hsm
    by_cases hlt : i < n
    · have hltz : (i : Int) < (n : Int) := by omega
      obtain ⟨ad, s, hA, hab, hsi, z0, zz⟩ := HR.out.recAt EvR.cells_len (by omega) hlt
      have hmem := List.mem_of_getElem? hsi
      have HZ : ∀ w2, Below w.heap.size w w2 → w2.cell? (ad.add (i * 12)) = (EvR.cells s)[0]? ∧ ∀ j, 0 < j → j < 12 → w2.cell? ⟨(ad.add (i * 12)).block, (ad.add (i * 12)).off + j, none⟩ = (EvR.cells s)[j]? := fun w2 hb =>
        ⟨(hb.cell (p := ad.add (i * 12)) (by rw [block_of_add]; exact hab)).trans z0, fun j h0 h7 => (hb.cell (p := ⟨(ad.add (i * 12)).block, (ad.add (i * 12)).off + j, none⟩) (by show (ad.add (i * 12)).block < _; rw [block_of_add]; exact hab)).trans (zz j h0 h7)⟩
      clear z0 zz hab
      subst hA
      have DTs := hide (DT.out s hmem)
      have RTs := hide (RT.out s hmem)
      have DRs := hide (DR.out s hmem)
      have RRs := hide (RR.out s hmem)
      have HSN := hide (show linesT ((l.take (i + 1)).map EvR.text) = linesT ((l.take i).map EvR.text) ++ EvR.text s ++ nl1 by rw [take_snoc hsi, List.map_append, List.map_singleton, linesT_snoc])
      have HTK := hide (show ∀ x ∈ l.take (i + 1), x ∈ l.take i ∨ x = s by
        intro x hx
        rw [take_snoc hsi, List.mem_append, List.mem_singleton] at hx
        exact hx)
      have HSZ := hide (show s.ps.length ≤ 50 → (EvR.text s).size ≤ 60000 from fun h => EvR.text_size s h)
      have hLZ := linesT_size 60000 ((l.take i).map EvR.text) (fun x hx => by
        obtain ⟨y, hy, rfl⟩ := List.mem_map.1 hx
        exact EvR.text_size y (HSM.out y hy))
      have hLZ2 : (linesT ((l.take i).map EvR.text)).size ≤ 10000000 := by
        rw [List.length_map, List.length_take] at hLZ
        have := Nat.mul_le_mul_right (60000 + 1) (show min i l.length ≤ 60 by omega)
        omega
      clear hLZ hsi hmem
      generalize EvR.text s = tx at *
      generalize hres : resT s.rk s.rv s.ps = rx at *
      generalize linesT ((l.take i).map EvR.text) = acc at *
      obtain ⟨kd, th, id, at_, k, key, vl, hi, mo, rk, rv, ps, A1, cm⟩ := s
      dsimp only at DTs RTs DRs RRs HSZ
      obtain ⟨N, hN⟩ : ∃ N, ps.length = N := ⟨_, rfl⟩
      have HZ2 := hide (show ∀ w2, Below w.heap.size w w2 → w2.cell? (ad.add (i * 12)) = some (.int .i64 kd) ∧ w2.cell? ⟨(ad.add (i * 12)).block, (ad.add (i * 12)).off + 1, none⟩ = some (.int .i64 th) ∧ w2.cell? ⟨(ad.add (i * 12)).block, (ad.add (i * 12)).off + 2, none⟩ = some (.int .i64 id) ∧ w2.cell? ⟨(ad.add (i * 12)).block, (ad.add (i * 12)).off + 3, none⟩ = some (.int .i64 at_) ∧ w2.cell? ⟨(ad.add (i * 12)).block, (ad.add (i * 12)).off + 4, none⟩ = some (.int .i64 k) ∧ w2.cell? ⟨(ad.add (i * 12)).block, (ad.add (i * 12)).off + 5, none⟩ = some (.int .u64 (key : Nat)) ∧ w2.cell? ⟨(ad.add (i * 12)).block, (ad.add (i * 12)).off + 6, none⟩ = some (.int .u64 (vl : Nat)) ∧ w2.cell? ⟨(ad.add (i * 12)).block, (ad.add (i * 12)).off + 7, none⟩ = some (.int .u64 (hi : Nat)) ∧ w2.cell? ⟨(ad.add (i * 12)).block, (ad.add (i * 12)).off + 8, none⟩ = some (.int .i64 mo) ∧ w2.cell? ⟨(ad.add (i * 12)).block, (ad.add (i * 12)).off + 9, none⟩ = some (.int .i64 rk) ∧ w2.cell? ⟨(ad.add (i * 12)).block, (ad.add (i * 12)).off + 10, none⟩ = some (.int .u64 (rv : Nat)) ∧ w2.cell? ⟨(ad.add (i * 12)).block, (ad.add (i * 12)).off + 11, none⟩ = some (.slice A1 ps.length cm) from
        fun w2 hb => ⟨(HZ w2 hb).1, (HZ w2 hb).2 1 (by omega) (by omega), (HZ w2 hb).2 2 (by omega) (by omega), (HZ w2 hb).2 3 (by omega) (by omega), (HZ w2 hb).2 4 (by omega) (by omega), (HZ w2 hb).2 5 (by omega) (by omega), (HZ w2 hb).2 6 (by omega) (by omega), (HZ w2 hb).2 7 (by omega) (by omega), (HZ w2 hb).2 8 (by omega) (by omega), (HZ w2 hb).2 9 (by omega) (by omega), (HZ w2 hb).2 10 (by omega) (by omega), (HZ w2 hb).2 11 (by omega) (by omega)⟩)
      clear HZ hres
      have HZ := HZ2
      clear HZ2
      rw [hN] at HZ DTs RTs DRs RRs HSZ
      have HTKM := hide (show ∀ x ∈ l.take (i + 1), x ∈ l.take i ∨ x.ps.length = N from fun x hx => (HTK.out x hx).imp (fun h => h) (fun e => by rw [e]; exact hN))
      have HNN := hide hN
      clear HTK hN
      obtain ⟨z0, z1, z2, z3, z4, z5, z6, z7, z8, z9, z10, z11⟩ := HZ.out wr B0
      by_cases h50 : (50 : Int) < N
      · have AWr := hide (AW.out wr B0)
        go_wp2_with fail
        refine AWr.out.mono ?_
        rintro e w1 ⟨rfl, hb1⟩
        go_wp2_with fail
        go_ret
        exact ⟨rfl, B0.trans (hb1.mono B0.size)⟩
      · have hN50 : N ≤ 50 := by omega
        have hSZ := HSZ.out hN50
        have D2 := hide (show ∀ w2, Below w.heap.size w w2 → Calls Tryz.prog 16 #[.agg #[.int .i64 kd, .int .i64 th, .int .i64 id, .int .i64 at_, .int .i64 k, .int .u64 (key : Nat), .int .u64 (vl : Nat), .int .u64 (hi : Nat), .int .i64 mo, .int .i64 rk, .int .u64 (rv : Nat), .slice A1 N cm]] w2 fun e w' => e = .returned (.string tx) ∧ Below w2.heap.size w2 w' from by have := DTs.out hN50; rw [← HNN.out]; exact this)
        have R2 := hide (show ∀ w2, Below w.heap.size w w2 → Calls Tryz.prog 17 #[.agg #[.int .i64 kd, .int .i64 th, .int .i64 id, .int .i64 at_, .int .i64 k, .int .u64 (key : Nat), .int .u64 (vl : Nat), .int .u64 (hi : Nat), .int .i64 mo, .int .i64 rk, .int .u64 (rv : Nat), .slice A1 N cm]] w2 fun e w' => e = .returned (.string tx) ∧ Below w2.heap.size w2 w' from by have := RTs.out hN50; rw [← HNN.out]; exact this)
        have D3 := hide (show ∀ w2, Below w.heap.size w w2 → Calls Tryz.prog 18 #[.agg #[.int .i64 rk, .int .u64 (rv : Nat), .slice A1 N cm]] w2 fun e w' => e = .returned (.string rx) ∧ Below w2.heap.size w2 w' from by have := DRs.out hN50; rw [← HNN.out]; rw [← HNN.out] at this; exact this)
        have R3 := hide (show ∀ w2, Below w.heap.size w w2 → Calls Tryz.prog 19 #[.agg #[.int .i64 rk, .int .u64 (rv : Nat), .slice A1 N cm]] w2 fun e w' => e = .returned (.string rx) ∧ Below w2.heap.size w2 w' from by have := RRs.out hN50; rw [← HNN.out]; rw [← HNN.out] at this; exact this)
        clear DTs RTs DRs RRs
        go_wp2_with fail
        clear z0 z1 z2 z3 z4 z5 z6 z7 z8 z9 z10 z11
        refine wp_region_heldZ [] (fun w' => w'.cell? (ad.add (i * 12)) = some (.int .i64 kd) ∧ w'.cell? ⟨(ad.add (i * 12)).block, (ad.add (i * 12)).off + 1, none⟩ = some (.int .i64 th) ∧ w'.cell? ⟨(ad.add (i * 12)).block, (ad.add (i * 12)).off + 2, none⟩ = some (.int .i64 id) ∧ w'.cell? ⟨(ad.add (i * 12)).block, (ad.add (i * 12)).off + 3, none⟩ = some (.int .i64 at_) ∧ w'.cell? ⟨(ad.add (i * 12)).block, (ad.add (i * 12)).off + 4, none⟩ = some (.int .i64 k) ∧ w'.cell? ⟨(ad.add (i * 12)).block, (ad.add (i * 12)).off + 5, none⟩ = some (.int .u64 (key : Nat)) ∧ w'.cell? ⟨(ad.add (i * 12)).block, (ad.add (i * 12)).off + 6, none⟩ = some (.int .u64 (vl : Nat)) ∧ w'.cell? ⟨(ad.add (i * 12)).block, (ad.add (i * 12)).off + 7, none⟩ = some (.int .u64 (hi : Nat)) ∧ w'.cell? ⟨(ad.add (i * 12)).block, (ad.add (i * 12)).off + 8, none⟩ = some (.int .i64 mo) ∧ w'.cell? ⟨(ad.add (i * 12)).block, (ad.add (i * 12)).off + 9, none⟩ = some (.int .i64 rk) ∧ w'.cell? ⟨(ad.add (i * 12)).block, (ad.add (i * 12)).off + 10, none⟩ = some (.int .u64 (rv : Nat)) ∧ w'.cell? ⟨(ad.add (i * 12)).block, (ad.add (i * 12)).off + 11, none⟩ = some (.slice A1 N cm)) (by kernel_rfl) (by first | exact HZ.out _ B0 | exact HZ.out _ B0.drew) (fun hHeld => ?_)
        replace B0 := B0.drew
        generalize wr.drew = wd at *
        refine' wpAnyZ_takeA (i := 0) (v := ?_) (opAt rfl) (by kernel_rfl) (by kernel_rfl) (by kernel_rfl) (by kernel_rfl) (fun _ _ _ h => h) (by assumption) (by rfl) (fun w hSw => ?_) ?_
        rotate_left
        · (try dsimp only at hSw); go_simp; (try with_reducible rfl)
        try simp only [Act.put, List.setIfInBounds_toArray, List.set_cons_zero, List.set_cons_succ]
        refine' wpAnyZ_takeA (i := 1) (v := ?_) (opAt rfl) (by kernel_rfl) (by kernel_rfl) (by kernel_rfl) (by kernel_rfl) (fun _ _ _ h => h) (by assumption) (by rfl) (fun w hSw => ?_) ?_
        rotate_left
        · (try dsimp only at hSw); go_simp; (try with_reducible rfl)
        try simp only [Act.put, List.setIfInBounds_toArray, List.set_cons_zero, List.set_cons_succ]
        refine' wpAnyZ_takeA (i := 2) (v := ?_) (opAt rfl) (by kernel_rfl) (by kernel_rfl) (by kernel_rfl) (by kernel_rfl) (fun _ _ _ h => h) (by assumption) (by rfl) (fun w hSw => ?_) ?_
        rotate_left
        · (try dsimp only at hSw); go_simp; (try with_reducible rfl)
        try simp only [Act.put, List.setIfInBounds_toArray, List.set_cons_zero, List.set_cons_succ]
        refine' wpAnyZ_takeA (i := 3) (v := ?_) (opAt rfl) (by kernel_rfl) (by kernel_rfl) (by kernel_rfl) (by kernel_rfl) (fun _ _ _ h => h) (by assumption) (by rfl) (fun w hSw => ?_) ?_
        rotate_left
        · (try dsimp only at hSw); go_simp; (try with_reducible rfl)
        try simp only [Act.put, List.setIfInBounds_toArray, List.set_cons_zero, List.set_cons_succ]
        refine' wpAnyZ_takeA (i := 5) (v := ?_) (opAt rfl) (by kernel_rfl) (by kernel_rfl) (by kernel_rfl) (by kernel_rfl) (fun _ _ _ h => h) (by assumption) (by rfl) (fun w hSw => ?_) ?_
        rotate_left
        · (try dsimp only at hSw); go_simp; (try with_reducible rfl)
        try simp only [Act.put, List.setIfInBounds_toArray, List.set_cons_zero, List.set_cons_succ]
        refine' wpAnyZ_takeA (i := 6) (v := ?_) (opAt rfl) (by kernel_rfl) (by kernel_rfl) (by kernel_rfl) (by kernel_rfl) (fun _ _ _ h => h) (by assumption) (by rfl) (fun w hSw => ?_) ?_
        rotate_left
        · (try dsimp only at hSw); go_simp; (try with_reducible rfl)
        try simp only [Act.put, List.setIfInBounds_toArray, List.set_cons_zero, List.set_cons_succ]
        refine' wpAnyZ_takeA (i := 7) (v := ?_) (opAt rfl) (by kernel_rfl) (by kernel_rfl) (by kernel_rfl) (by kernel_rfl) (fun _ _ _ h => h) (by assumption) (by rfl) (fun w hSw => ?_) ?_
        rotate_left
        · (try dsimp only at hSw); go_simp; (try with_reducible rfl)
        try simp only [Act.put, List.setIfInBounds_toArray, List.set_cons_zero, List.set_cons_succ]
        refine' wpAnyZ_takeA (i := 8) (v := ?_) (opAt rfl) (by kernel_rfl) (by kernel_rfl) (by kernel_rfl) (by kernel_rfl) (fun _ _ _ h => h) (by assumption) (by rfl) (fun w hSw => ?_) ?_
        rotate_left
        · (try dsimp only at hSw); go_simp; (try with_reducible rfl)
        try simp only [Act.put, List.setIfInBounds_toArray, List.set_cons_zero, List.set_cons_succ]
        refine wpAnyZ_ready (rs := [4]) (by kernel_rfl) (by simp) ?_
        refine AllReadyZ.cons (opAt rfl) (fun K hK => ?_) ?_
        · skip
          go_simp
          refine (D2.out _ B0).mono ?_
          rintro e w1 ⟨rfl, hb1⟩
          replace B0 := B0.trans (hb1.mono B0.size)
          clear hb1
          try go_wp2_with fail
          refine hK.out _ _ (by first | exact HZ.out _ B0 | exact HZ.out _ B0.drew) (fun hHeld => ?_)
          clear hK K
          try simp only [Act.put, List.setIfInBounds_toArray, List.set_cons_zero, List.set_cons_succ]
          refine wpAnyZ_ready (rs := [9]) (by kernel_rfl) (by simp) ?_
          refine AllReadyZ.cons (opAt rfl) (fun K hK => ?_) ?_
          · skip
            go_simp
            refine (R2.out _ B0).mono ?_
            rintro e w2 ⟨rfl, hb1⟩
            replace B0 := B0.trans (hb1.mono B0.size)
            clear hb1
            try go_wp2_with fail
            refine hK.out _ _ (by first | exact HZ.out _ B0 | exact HZ.out _ B0.drew) (fun hHeld => ?_)
            clear hK K
            try simp only [Act.put, List.setIfInBounds_toArray, List.set_cons_zero, List.set_cons_succ]
            refine' wpAnyZ_takeA (i := 10) (v := ?_) (opAt rfl) (by kernel_rfl) (by kernel_rfl) (by kernel_rfl) (by kernel_rfl) (fun _ _ _ h => h) (by assumption) (by rfl) (fun w hSw => ?_) ?_
            rotate_left
            · (try dsimp only at hSw); go_simp; (try with_reducible rfl)
            try simp only [Act.put, List.setIfInBounds_toArray, List.set_cons_zero, List.set_cons_succ]
            refine' wpAnyZ_takeA (i := 11) (v := ?_) (opAt rfl) (by kernel_rfl) (by kernel_rfl) (by kernel_rfl) (by kernel_rfl) (fun _ _ _ h => h) (by assumption) (by rfl) (fun w hSw => ?_) ?_
            rotate_left
            · (try dsimp only at hSw); go_simp; (try with_reducible rfl)
            try simp only [Act.put, List.setIfInBounds_toArray, List.set_cons_zero, List.set_cons_succ]
            refine' wpAnyZ_takeA (i := 12) (v := ?_) (opAt rfl) (by kernel_rfl) (by kernel_rfl) (by kernel_rfl) (by kernel_rfl) (fun _ _ _ h => h) (by assumption) (by rfl) (fun w hSw => ?_) ?_
            rotate_left
            · (try dsimp only at hSw); go_simp; (try with_reducible rfl)
            try simp only [Act.put, List.setIfInBounds_toArray, List.set_cons_zero, List.set_cons_succ]
            refine' wpAnyZ_takeA (i := 13) (v := ?_) (opAt rfl) (by kernel_rfl) (by kernel_rfl) (by kernel_rfl) (by kernel_rfl) (fun _ _ _ h => h) (by assumption) (by rfl) (fun w hSw => ?_) ?_
            rotate_left
            · (try dsimp only at hSw); go_simp; (try with_reducible rfl)
            try simp only [Act.put, List.setIfInBounds_toArray, List.set_cons_zero, List.set_cons_succ]
            refine' wpAnyZ_takeA (i := 14) (v := ?_) (opAt rfl) (by kernel_rfl) (by kernel_rfl) (by kernel_rfl) (by kernel_rfl) (fun _ _ _ h => h) (by assumption) (by rfl) (fun w hSw => ?_) ?_
            rotate_left
            · (try dsimp only at hSw); go_simp; (try with_reducible rfl)
            try simp only [Act.put, List.setIfInBounds_toArray, List.set_cons_zero, List.set_cons_succ]
            refine' wpAnyZ_takeA (i := 15) (v := ?_) (opAt rfl) (by kernel_rfl) (by kernel_rfl) (by kernel_rfl) (by kernel_rfl) (fun _ _ _ h => h) (by assumption) (by rfl) (fun w hSw => ?_) ?_
            rotate_left
            · (try dsimp only at hSw); go_simp; (try with_reducible rfl)
            try simp only [Act.put, List.setIfInBounds_toArray, List.set_cons_zero, List.set_cons_succ]
            refine' wpAnyZ_takeA (i := 16) (v := ?_) (opAt rfl) (by kernel_rfl) (by kernel_rfl) (by kernel_rfl) (by kernel_rfl) (fun _ _ _ h => h) (by assumption) (by rfl) (fun w hSw => ?_) ?_
            rotate_left
            · (try dsimp only at hSw); go_simp; (try with_reducible rfl)
            try simp only [Act.put, List.setIfInBounds_toArray, List.set_cons_zero, List.set_cons_succ]
            refine' wpAnyZ_takeA (i := 18) (v := ?_) (opAt rfl) (by kernel_rfl) (by kernel_rfl) (by kernel_rfl) (by kernel_rfl) (fun _ _ _ h => h) (by assumption) (by rfl) (fun w hSw => ?_) ?_
            rotate_left
            · (try dsimp only at hSw); go_simp; (try with_reducible rfl)
            try simp only [Act.put, List.setIfInBounds_toArray, List.set_cons_zero, List.set_cons_succ]
            refine' wpAnyZ_takeA (i := 19) (v := ?_) (opAt rfl) (by kernel_rfl) (by kernel_rfl) (by kernel_rfl) (by kernel_rfl) (fun _ _ _ h => h) (by assumption) (by rfl) (fun w hSw => ?_) ?_
            rotate_left
            · (try dsimp only at hSw); go_simp; (try with_reducible rfl)
            try simp only [Act.put, List.setIfInBounds_toArray, List.set_cons_zero, List.set_cons_succ]
            refine' wpAnyZ_takeA (i := 20) (v := ?_) (opAt rfl) (by kernel_rfl) (by kernel_rfl) (by kernel_rfl) (by kernel_rfl) (fun _ _ _ h => h) (by assumption) (by rfl) (fun w hSw => ?_) ?_
            rotate_left
            · (try dsimp only at hSw); go_simp; (try with_reducible rfl)
            try simp only [Act.put, List.setIfInBounds_toArray, List.set_cons_zero, List.set_cons_succ]
            refine' wpAnyZ_takeA (i := 21) (v := ?_) (opAt rfl) (by kernel_rfl) (by kernel_rfl) (by kernel_rfl) (by kernel_rfl) (fun _ _ _ h => h) (by assumption) (by rfl) (fun w hSw => ?_) ?_
            rotate_left
            · (try dsimp only at hSw); go_simp; (try with_reducible rfl)
            try simp only [Act.put, List.setIfInBounds_toArray, List.set_cons_zero, List.set_cons_succ]
            refine' wpAnyZ_takeA (i := 22) (v := ?_) (opAt rfl) (by kernel_rfl) (by kernel_rfl) (by kernel_rfl) (by kernel_rfl) (fun _ _ _ h => h) (by assumption) (by rfl) (fun w hSw => ?_) ?_
            rotate_left
            · (try dsimp only at hSw); go_simp; (try with_reducible rfl)
            try simp only [Act.put, List.setIfInBounds_toArray, List.set_cons_zero, List.set_cons_succ]
            refine wpAnyZ_ready (rs := [17]) (by kernel_rfl) (by simp) ?_
            refine AllReadyZ.cons (opAt rfl) (fun K hK => ?_) ?_
            · skip
              go_simp
              refine (D3.out _ B0).mono ?_
              rintro e w3 ⟨rfl, hb1⟩
              replace B0 := B0.trans (hb1.mono B0.size)
              clear hb1
              try go_wp2_with fail
              refine hK.out _ _ (by first | exact HZ.out _ B0 | exact HZ.out _ B0.drew) (fun hHeld => ?_)
              clear hK K
              try simp only [Act.put, List.setIfInBounds_toArray, List.set_cons_zero, List.set_cons_succ]
              refine wpAnyZ_ready (rs := [23]) (by kernel_rfl) (by simp) ?_
              refine AllReadyZ.cons (opAt rfl) (fun K hK => ?_) ?_
              · skip
                go_simp
                refine (R3.out _ B0).mono ?_
                rintro e w4 ⟨rfl, hb1⟩
                replace B0 := B0.trans (hb1.mono B0.size)
                clear hb1
                try go_wp2_with fail
                refine hK.out _ _ (by first | exact HZ.out _ B0 | exact HZ.out _ B0.drew) (fun hHeld => ?_)
                clear hK K
                try simp only [Act.put, List.setIfInBounds_toArray, List.set_cons_zero, List.set_cons_succ]
                refine' wpAnyZ_takeA (i := 24) (v := ?_) (opAt rfl) (by kernel_rfl) (by kernel_rfl) (by kernel_rfl) (by kernel_rfl) (fun _ _ _ h => h) (by assumption) (by rfl) (fun w hSw => ?_) ?_
                rotate_left
                · (try dsimp only at hSw); go_simp; (try with_reducible rfl)
                try simp only [Act.put, List.setIfInBounds_toArray, List.set_cons_zero, List.set_cons_succ]
                refine' wpAnyZ_takeA (i := 25) (v := ?_) (opAt rfl) (by kernel_rfl) (by kernel_rfl) (by kernel_rfl) (by kernel_rfl) (fun _ _ _ h => h) (by assumption) (by rfl) (fun w hSw => ?_) ?_
                rotate_left
                · (try dsimp only at hSw); go_simp; (try with_reducible rfl)
                try simp only [Act.put, List.setIfInBounds_toArray, List.set_cons_zero, List.set_cons_succ]
                refine wpAnyZ_done (by kernel_rfl) ?_ _
                obtain ⟨z0, z1, z2, z3, z4, z5, z6, z7, z8, z9, z10, z11⟩ := HZ.out _ B0
                go_wp2_with fail
                refine (R2.out _ B0).mono ?_
                rintro e w6 ⟨rfl, hb1⟩
                replace B0 := B0.trans (hb1.mono B0.size)
                clear hb1 z0 z1 z2 z3 z4 z5 z6 z7 z8 z9 z10 z11
                go_wp2_with fail
                go_roundw
                case rel => exact ⟨i + 1, by go_num, by omega, by rw [HSN.out]; rfl, fun x hx => (HTKM.out x hx).elim (fun h => HSM.out x h) (fun h => by omega), B0⟩
                case measure => simp [intOf]; omega
              exact AllReadyZ.nil
            exact AllReadyZ.nil
          exact AllReadyZ.nil
        exact AllReadyZ.nil
    · obtain rfl : i = n := by omega
      have htk : l.take i = l := List.take_of_length_le (by rw [HL.out]; exact Nat.le_refl _)
      have hall := HSM.out
      rw [htk] at hall ⊢
      have D := hide (DS.out hall wr B0)
      generalize linesT (l.map EvR.text) = Q at *
      have AW2 := hide (fun w2 (hb : Below wr.heap.size wr w2) => AW.out w2 (B0.trans (hb.mono B0.size)))
      clear hall htk DS
      go_wp2_with fail
      refine D.out.mono ?_
      rintro e w1 ⟨rfl, hb1⟩
      go_wp2_with fail
      refine (AW2.out _ hb1).mono ?_
      rintro e w2 ⟨rfl, hb2⟩
      go_wp2_with fail
      go_ret
      exact ⟨rfl, B0.trans ((hb1.trans (hb2.mono hb1.size)).mono B0.size)⟩
end Go.Proofs.YtlnckjemfabckaaGreatDoor

/-
  Readings of events with their pairs.
-/
namespace Go.Proofs.YtlnckjemfabckaaGreatDoor
open Go.ChangeShapes Go.WideShapes Go.ChangeAt Go.RowKit Go.Deep

section
variable {H : Type} {enc : TypeId × Value → H} {w : World} {spare : Nat → Bool} {held : Bool} {base : Nat}
theorem cofe_int : Tryz.prog.cellsOf 3 = 1 := by kernel_rfl
theorem cofe_u64 : Tryz.prog.cellsOf 32 = 1 := by kernel_rfl
theorem cofe_op : Tryz.prog.cellsOf 48 = 5 := by kernel_rfl
theorem cofe_res : Tryz.prog.cellsOf 46 = 3 := by kernel_rfl
theorem cofe_pair : Tryz.prog.cellsOf 102 = 2 := by kernel_rfl
theorem cofe_pairs : Tryz.prog.cellsOf 44 = 1 := by kernel_rfl
theorem cofe_event : Tryz.prog.cellsOf 50 = 12 := by kernel_rfl
theorem ine_u64 {n : Nat} {v : Value} {y : DataW H × List MemPlace} (h : DataW.trod enc Tryz.prog w base spare held n 32 [v] = some y) : ∃ x : Nat, v = .int .u64 (x : Nat) ∧ x < 18446744073709551616 := by
  obtain ⟨x, h1, _, h3⟩ := DataW.trod_int Tryz.underlying32 h
  simp at h1
  obtain ⟨a, b⟩ := W64.of_wf h3
  obtain ⟨m, rfl⟩ := Int.eq_ofNat_of_zero_le a
  exact ⟨m, h1, by omega⟩
theorem ine_i64 {n : Nat} {v : Value} {y : DataW H × List MemPlace} (h : DataW.trod enc Tryz.prog w base spare held n 3 [v] = some y) : ∃ x : Int, v = .int .i64 x ∧ I64 x := by
  obtain ⟨x, h1, _, h3⟩ := DataW.trod_int Tryz.underlying3 h
  simp at h1
  exact ⟨x, h1, I64.of_wf h3⟩
set_option maxRecDepth 100000 in
theorem ine_pair {n : Nat} {cs : List Value} {y : DataW H × List MemPlace} (h : DataW.trod enc Tryz.prog w base spare held n 102 cs = some y) (hl : cs.length = 2) : ∃ p : PairR, cs = PairR.cells p ∧ PairOk p := by
  match cs, hl with
  | [x0, x1], _ =>
    obtain ⟨n0, y0, g0, _⟩ := fldT Tryz.underlying102 h 0 0 1 32 rfl cofe_u64
    obtain ⟨n1, y1, g1, _⟩ := fldT Tryz.underlying102 h 1 1 1 32 rfl cofe_u64
    obtain ⟨a, rfl, ha⟩ := ine_u64 g0
    obtain ⟨b, rfl, hb⟩ := ine_u64 g1
    exact ⟨(a, b), rfl, ha, hb⟩
set_option maxRecDepth 100000 in
theorem ine_op {n : Nat} {cs : List Value} {y : DataW H × List MemPlace} (h : DataW.trod enc Tryz.prog w base spare held n 48 cs = some y) (hl : cs.length = 5) :
    ∃ (k : Int) (a b c : Nat) (m : Int), cs = [.int .i64 k, .int .u64 (a : Nat), .int .u64 (b : Nat), .int .u64 (c : Nat), .int .i64 m] ∧ I64 k ∧ a < 18446744073709551616 ∧ b < 18446744073709551616 ∧ c < 18446744073709551616 ∧ I64 m := by
  match cs, hl with
  | [x0, x1, x2, x3, x4], _ =>
    obtain ⟨n0, y0, g0, _⟩ := fldT Tryz.underlying48 h 0 0 1 3 rfl cofe_int
    obtain ⟨n1, y1, g1, _⟩ := fldT Tryz.underlying48 h 1 1 1 32 rfl cofe_u64
    obtain ⟨n2, y2, g2, _⟩ := fldT Tryz.underlying48 h 2 2 1 32 rfl cofe_u64
    obtain ⟨n3, y3, g3, _⟩ := fldT Tryz.underlying48 h 3 3 1 32 rfl cofe_u64
    obtain ⟨n4, y4, g4, _⟩ := fldT Tryz.underlying48 h 4 4 1 3 rfl cofe_int
    obtain ⟨a, rfl, ha⟩ := ine_i64 g0
    obtain ⟨b, rfl, hb⟩ := ine_u64 g1
    obtain ⟨c, rfl, hc⟩ := ine_u64 g2
    obtain ⟨d, rfl, hd⟩ := ine_u64 g3
    obtain ⟨e, rfl, he⟩ := ine_i64 g4
    exact ⟨a, b, c, d, e, rfl, ha, hb, hc, hd, he⟩
set_option maxRecDepth 100000 in
theorem ine_res (hsp : ∀ a, spare a = true) {n : Nat} {cs : List Value} {y : DataW H × List MemPlace} (h : DataW.trod enc Tryz.prog w base spare held n 46 cs = some y) (hlt : ∀ p ∈ y.2, p.block < w.heap.size) (hl : cs.length = 3) :
    ∃ (k : Int) (v : Nat) (A : Option Addr) (c : Nat) (ps : List PairR), cs = [.int .i64 k, .int .u64 (v : Nat), .slice A ps.length c] ∧ I64 k ∧ v < 18446744073709551616 ∧ (∀ p ∈ ps, PairOk p) ∧ Reads w w.heap.size 2 A ps.length (ps.flatMap PairR.cells) := by
  match cs, hl with
  | [x0, x1, x2], _ =>
    obtain ⟨n0, y0, g0, _⟩ := fldT Tryz.underlying46 h 0 0 1 3 rfl cofe_int
    obtain ⟨n1, y1, g1, _⟩ := fldT Tryz.underlying46 h 1 1 1 32 rfl cofe_u64
    obtain ⟨n2, y2, g2, p2⟩ := fldT Tryz.underlying46 h 2 2 1 44 rfl cofe_pairs
    obtain ⟨a, rfl, ha⟩ := ine_i64 g0
    obtain ⟨b, rfl, hb⟩ := ine_u64 g1
    obtain ⟨A, len, cap, l, hcs, _, _, hll, hr, hq⟩ := open_recs_in (B := w.heap.size) PairR.cells PairOk Tryz.underlying44 cofe_pair (by omega) g2 (fun p hp => hlt p (p2 p hp)) hsp (fun n cs' y hy _ hl => ine_pair hy hl)
    simp at hcs
    subst hcs
    subst hll
    exact ⟨a, b, A, cap, l, rfl, ha, hb, hq, hr⟩
set_option maxRecDepth 100000 in
theorem ine_event (hsp : ∀ a, spare a = true) {n : Nat} {cs : List Value} {y : DataW H × List MemPlace} (h : DataW.trod enc Tryz.prog w base spare held n 50 cs = some y) (hlt : ∀ p ∈ y.2, p.block < w.heap.size) (hl : cs.length = 12) :
    ∃ s : EvR, cs = EvR.cells s ∧ EvOk w s := by
  match cs, hl with
  | [x0, x1, x2, x3, x4, x5, x6, x7, x8, x9, x10, x11], _ =>
    obtain ⟨n0, y0, g0, _⟩ := fldT Tryz.underlying50 h 0 0 1 3 rfl cofe_int
    obtain ⟨n1, y1, g1, _⟩ := fldT Tryz.underlying50 h 1 1 1 3 rfl cofe_int
    obtain ⟨n2, y2, g2, _⟩ := fldT Tryz.underlying50 h 2 2 1 3 rfl cofe_int
    obtain ⟨n3, y3, g3, _⟩ := fldT Tryz.underlying50 h 3 3 1 3 rfl cofe_int
    obtain ⟨n4, y4, g4, _⟩ := fldT Tryz.underlying50 h 4 4 5 48 rfl cofe_op
    obtain ⟨n5, y5, g5, p5⟩ := fldT Tryz.underlying50 h 5 9 3 46 rfl cofe_res
    obtain ⟨a0, rfl, h0⟩ := ine_i64 g0
    obtain ⟨a1, rfl, h1⟩ := ine_i64 g1
    obtain ⟨a2, rfl, h2⟩ := ine_i64 g2
    obtain ⟨a3, rfl, h3⟩ := ine_i64 g3
    obtain ⟨k, a, b, c, m, he, _, h5, h6, h7, h8⟩ := ine_op g4 rfl
    simp at he
    obtain ⟨rfl, rfl, rfl, rfl, rfl⟩ := he
    obtain ⟨rk, rv, A, cap, ps, hf, h9, h10, h11, h12⟩ := ine_res hsp g5 (fun p hp => hlt p (p5 p hp)) rfl
    simp at hf
    obtain ⟨rfl, rfl, rfl⟩ := hf
    exact ⟨⟨a0, a1, a2, a3, k, a, b, c, m, rk, rv, ps, A, cap⟩, rfl, h0, h1, h2, h3, h5, h6, h7, h8, h9, h10, h11, h12⟩
set_option maxRecDepth 100000 in
theorem open_events {b0 : Nat} {v : Value} {d : DataW H} {ps : List MemPlace}
    (hv : Value.okWide Tryz.prog w .any b0 43 v) (h : DataW.Trod enc Tryz.prog w base spare held 43 v d ps) (hlt : ∀ p ∈ ps, p.block < w.heap.size) (hsp : ∀ a, spare a = true) :
    ∃ (A : Option Addr) (len cap : Nat) (l : List EvR), v = .slice A len cap ∧ len ≤ cap ∧ cap ≤ maxLen ∧ l.length = len ∧ Reads w w.heap.size 12 A len (l.flatMap EvR.cells) ∧ ∀ s ∈ l, EvOk w s :=
  open_recs EvR.cells (EvOk w) Tryz.underlying43 cofe_event (by omega) hv h hlt hsp (fun _ _ _ hy hp hl => ine_event hsp hy hp hl)
end
end Go.Proofs.YtlnckjemfabckaaGreatDoor

