/-
  dump.Step: a step's words.
-/
import Derived.Test.YtlnckjemfabckaaDoorZ4
namespace Go.Proofs.YtlnckjemfabckaaDoor
open Go.RowKit

theorem MarkR.cells_len (m : MarkR) : (MarkR.cells m).length = 3 := rfl
def MarkOk (m : MarkR) : Prop := I64 m.1 ∧ m.2.1 < 18446744073709551616 ∧ m.2.2 < 18446744073709551616
theorem marks_succ {ms : List MarkR} {j : Nat} {m : MarkR} (h : ms[j]? = some m) : (ms.take (j + 1)).map MarkR.text = (ms.take j).map MarkR.text ++ [MarkR.text m] := by
  rw [List.take_add_one, h]
  simp
def StI (g N n0 : Nat) (cells : Array Value) (W0 : List ByteArray) (ms : List MarkR) (w : World) (v3 v55 : Value) (wr : World) : Prop :=
  ∃ (j : Nat) (A : Option Addr) (c : Nat), v55 = .int .i64 j ∧ j ≤ N ∧ v3 = .slice A (n0 + j) c ∧ wr.ownsRow (g + 1) 9 1 (.slice A (n0 + j) c) (n0 + j) (strs (W0 ++ (ms.take j).map MarkR.text)) ∧ Blk wr g 29 cells ∧ Below g w wr
theorem accS_ascii : ∀ (j : Nat) b, accS.data.toList[j]? = some b → b.toNat < 128 := by
  intro j b h
  have : ∀ b ∈ accS.data.toList, b.toNat < 128 := by decide
  exact this b (List.mem_of_getElem? h)
set_option maxRecDepth 100000 in
set_option maxHeartbeats 4000000 in
theorem step_3 (th at_ : Int) (o n g' : Nat) (ms : List MarkR) (A0 : Option Addr) (N cm : Nat) (w : World) (hT : Tab w) (ht : I64 th) (ha : I64 at_) (q1 : o < 18446744073709551616) (q2 : n < 18446744073709551616) (q3 : g' < 18446744073709551616)
    (hms : ∀ m ∈ ms, MarkOk m) (hN : ms.length = N) (hl : N ≤ 20) (hr : Reads w w.heap.size 3 A0 N (ms.flatMap MarkR.cells)) :
    Calls Tryd.prog 7 #[.agg #[.int .i64 th, .int .i64 3, .int .i64 at_, .int .u64 o, .int .u64 n, .int .u64 g', .slice A0 N cm]] w fun e w' => e = .returned (.string (stepT th 3 at_ o n g' ms)) ∧ Below w.heap.size w w' := by
  obtain ⟨i0, hi0, hz0, hs0, hb0⟩ := info_parts infoStr
  have B0 := (Below.refl w.heap.size w).alloc (Nat.le_refl _) (.cells #[.int .i64 th, .int .i64 3, .int .i64 at_, .int .u64 o, .int .u64 n, .int .u64 g', .slice A0 N cm] 29)
  have bx := Blk.new w 29 #[.int .i64 th, .int .i64 3, .int .i64 at_, .int .u64 o, .int .u64 n, .int .u64 g', .slice A0 N cm]
  have IT := hide (fun w2 => int_any th w2 ht)
  have IA := hide (fun w2 => int_any at_ w2 ha)
  have TO := hide (fun w2 => text_any o w2 q1)
  have TN := hide (fun w2 => text_any n w2 q2)
  have TG := hide (fun w2 => text_any g' w2 q3)
  have NM := hide (fun w2 (h : Below w.heap.size w w2) => named_any accS accL 3 w2 (hT.below h) ⟨by omega, by omega⟩ (by decide) accS_ascii acc_fields (by decide))
  rw [show accS = ⟨#[108, 111, 97, 100, 32, 115, 116, 111, 114, 101, 32, 99, 97, 115]⟩ from rfl] at NM
  have MK := hide (fun (m : MarkR) (hm : m ∈ ms) w2 (h : Below w.heap.size w w2) => mark_any m.1 m.2.1 m.2.2 w2 (hT.below h) (hms m hm).1 (hms m hm).2.1 (hms m hm).2.2)
  have HSZ := hide (stepT_size th 3 at_ o n g' ms (by omega))
  have E := hide (show stepT th 3 at_ o n g' ms = joinT ([intT th, nmd accL 3, intT at_, numT o, numT n, eq1, numT g'] ++ ms.map MarkR.text) by simp [stepT, stepW])
  rw [show strOfNums (intL th) = intT th from rfl] at IT
  rw [show strOfNums (intL at_) = intT at_ from rfl] at IA
  rw [show strOfNums (form 10 o) = numT o from rfl] at TO
  rw [show strOfNums (form 10 n) = numT n from rfl] at TN
  rw [show strOfNums (form 10 g') = numT g' from rfl] at TG
  generalize stepT th 3 at_ o n g' ms = R at *
  generalize nmd accL 3 = nm at *
  generalize intT th = ith at *
  generalize intT at_ = iat at *
  generalize numT o = to_ at *
  generalize numT n = tn at *
  generalize numT g' = tg at *
  have HR := hide hr
  have HN := hide hN
  clear hT ht ha q1 q2 q3 hr hN hms
  go_enter Tryd.func7, Tryd.ntmps7
  go_wp2_with fail
  generalize hgw : w.heap.size = g at *
  have HGW := hide hgw
  clear hgw
  generalize w.alloc (.cells #[.int .i64 th, .int .i64 3, .int .i64 at_, .int .u64 o, .int .u64 n, .int .u64 g', .slice A0 N cm] 29) = w0 at *
  refine wp_region_heldZ [] (fun w' => w'.cell? ⟨g, 0, none⟩ = some (.int .i64 th) ∧ w'.cell? ⟨g, 1, none⟩ = some (.int .i64 3) ∧ w'.cell? ⟨g, 2, none⟩ = some (.int .i64 at_)) (by kernel_rfl) (by exact ⟨bx.cell 0, bx.cell 1, bx.cell 2⟩) (fun hHeld => ?_)
  replace bx := bx.drew
  replace B0 := B0.drew
  generalize w0.drew = wd at *
  refine' wpAnyZ_takeA (i := 0) (v := ?_) (opAt rfl) (by kernel_rfl) (by kernel_rfl) (by kernel_rfl) (by kernel_rfl) (fun _ _ _ h => h) (by assumption) (by rfl) (fun w hSw => ?_) ?_
  rotate_left
  · (try dsimp only at hSw); go_simp; (try with_reducible rfl)
  try simp only [Act.put, List.setIfInBounds_toArray, List.set_cons_zero, List.set_cons_succ]
  refine' wpAnyZ_takeA (i := 1) (v := ?_) (opAt rfl) (by kernel_rfl) (by kernel_rfl) (by kernel_rfl) (by kernel_rfl) (fun _ _ _ h => h) (by assumption) (by rfl) (fun w hSw => ?_) ?_
  rotate_left
  · (try dsimp only at hSw); go_simp; (try with_reducible rfl)
  try simp only [Act.put, List.setIfInBounds_toArray, List.set_cons_zero, List.set_cons_succ]
  refine' wpAnyZ_takeA (i := 3) (v := ?_) (opAt rfl) (by kernel_rfl) (by kernel_rfl) (by kernel_rfl) (by kernel_rfl) (fun _ _ _ h => h) (by assumption) (by rfl) (fun w hSw => ?_) ?_
  rotate_left
  · (try dsimp only at hSw); go_simp; (try with_reducible rfl)
  try simp only [Act.put, List.setIfInBounds_toArray, List.set_cons_zero, List.set_cons_succ]
  refine' wpAnyZ_takeA (i := 4) (v := ?_) (opAt rfl) (by kernel_rfl) (by kernel_rfl) (by kernel_rfl) (by kernel_rfl) (fun _ _ _ h => h) (by assumption) (by rfl) (fun w hSw => ?_) ?_
  rotate_left
  · (try dsimp only at hSw); go_simp; (try with_reducible rfl)
  try simp only [Act.put, List.setIfInBounds_toArray, List.set_cons_zero, List.set_cons_succ]
  refine' wpAnyZ_takeA (i := 5) (v := ?_) (opAt rfl) (by kernel_rfl) (by kernel_rfl) (by kernel_rfl) (by kernel_rfl) (fun _ _ _ h => h) (by assumption) (by rfl) (fun w hSw => ?_) ?_
  rotate_left
  · (try dsimp only at hSw); go_simp; (try with_reducible rfl)
  try simp only [Act.put, List.setIfInBounds_toArray, List.set_cons_zero, List.set_cons_succ]
  refine' wpAnyZ_takeA (i := 7) (v := ?_) (opAt rfl) (by kernel_rfl) (by kernel_rfl) (by kernel_rfl) (by kernel_rfl) (fun _ _ _ h => h) (by assumption) (by rfl) (fun w hSw => ?_) ?_
  rotate_left
  · (try dsimp only at hSw); go_simp; (try with_reducible rfl)
  try simp only [Act.put, List.setIfInBounds_toArray, List.set_cons_zero, List.set_cons_succ]
  refine' wpAnyZ_takeA (i := 8) (v := ?_) (opAt rfl) (by kernel_rfl) (by kernel_rfl) (by kernel_rfl) (by kernel_rfl) (fun _ _ _ h => h) (by assumption) (by rfl) (fun w hSw => ?_) ?_
  rotate_left
  · (try dsimp only at hSw); go_simp; (try with_reducible rfl)
  try simp only [Act.put, List.setIfInBounds_toArray, List.set_cons_zero, List.set_cons_succ]
  refine' wpAnyZ_takeA (i := 9) (v := ?_) (opAt rfl) (by kernel_rfl) (by kernel_rfl) (by kernel_rfl) (by kernel_rfl) (fun _ _ _ h => h) (by assumption) (by rfl) (fun w hSw => ?_) ?_
  rotate_left
  · (try dsimp only at hSw); go_simp; (try with_reducible rfl)
  try simp only [Act.put, List.setIfInBounds_toArray, List.set_cons_zero, List.set_cons_succ]
  refine wpAnyZ_ready (rs := [2]) (by kernel_rfl) (by simp) ?_
  refine AllReadyZ.cons (opAt rfl) (fun K hK => ?_) ?_
  · skip
    go_simp
    refine (IT.out _).mono ?_
    rintro e w1 ⟨rfl, hb1⟩
    replace B0 := B0.trans (hb1.mono (Nat.le_of_lt bx.lt))
    replace bx := bx.below hb1 bx.lt
    clear hb1
    try go_wp2_with fail
    refine hK.out _ _ (by exact ⟨bx.cell 0, bx.cell 1, bx.cell 2⟩) (fun hHeld => ?_)
    clear hK K
    try simp only [Act.put, List.setIfInBounds_toArray, List.set_cons_zero, List.set_cons_succ]
    refine wpAnyZ_ready (rs := [6]) (by kernel_rfl) (by simp) ?_
    refine AllReadyZ.cons (opAt rfl) (fun K hK => ?_) ?_
    · skip
      go_simp
      refine (NM.out _ B0).mono ?_
      rintro e w2 ⟨rfl, hb1⟩
      replace B0 := B0.trans (hb1.mono (Nat.le_of_lt bx.lt))
      replace bx := bx.below hb1 bx.lt
      clear hb1
      try go_wp2_with fail
      refine hK.out _ _ (by exact ⟨bx.cell 0, bx.cell 1, bx.cell 2⟩) (fun hHeld => ?_)
      clear hK K
      try simp only [Act.put, List.setIfInBounds_toArray, List.set_cons_zero, List.set_cons_succ]
      refine wpAnyZ_ready (rs := [10]) (by kernel_rfl) (by simp) ?_
      refine AllReadyZ.cons (opAt rfl) (fun K hK => ?_) ?_
      · skip
        go_simp
        refine (IA.out _).mono ?_
        rintro e w3 ⟨rfl, hb1⟩
        replace B0 := B0.trans (hb1.mono (Nat.le_of_lt bx.lt))
        replace bx := bx.below hb1 bx.lt
        clear hb1
        try go_wp2_with fail
        refine hK.out _ _ (by exact ⟨bx.cell 0, bx.cell 1, bx.cell 2⟩) (fun hHeld => ?_)
        clear hK K
        try simp only [Act.put, List.setIfInBounds_toArray, List.set_cons_zero, List.set_cons_succ]
        refine wpAnyZ_ready (rs := [11]) (by kernel_rfl) (by simp) ?_
        refine AllReadyZ.cons (opAt rfl) (fun K hK => ?_) ?_
        · skip
          go_simp
          have hsz : g + 1 ≤ w3.heap.size := bx.lt
          have ho := own_lit w3 9 #[.string ith, .string nm, .string iat] 3 (g + 1) hsz rfl (by omega)
          replace bx := bx.alloc (.cells #[.string ith, .string nm, .string iat] 9)
          replace B0 := B0.alloc (by omega) (.cells #[.string ith, .string nm, .string iat] 9)
          clear hsz
          refine hK.out _ _ (by exact ⟨bx.cell 0, bx.cell 1, bx.cell 2⟩) (fun hHeld => ?_)
          clear hK K
          try simp only [Act.put, List.setIfInBounds_toArray, List.set_cons_zero, List.set_cons_succ]
          refine' wpAnyZ_takeA (i := 12) (v := ?_) (opAt rfl) (by kernel_rfl) (by kernel_rfl) (by kernel_rfl) (by kernel_rfl) (fun _ _ _ h => h) (by assumption) (by rfl) (fun w hSw => ?_) ?_
          rotate_left
          · (try dsimp only at hSw); go_simp; (try with_reducible rfl)
          try simp only [Act.put, List.setIfInBounds_toArray, List.set_cons_zero, List.set_cons_succ]
          refine wpAnyZ_done (by kernel_rfl) ?_ _
          generalize (w3.alloc (.cells #[.string ith, .string nm, .string iat] 9)) = w4 at *
          have mc := fun j => bx.cell j
          have hlt0 := bx.lt
          replace ho : w4.ownsRow (g + 1) 9 1 _ 3 (strs [ith, nm, iat]) := ho
          go_wp2_with fail
          refine (TO.out _).mono ?_
          rintro e w5 ⟨rfl, hb1⟩
          replace B0 := B0.trans (hb1.mono (Nat.le_of_lt bx.lt))
          replace bx := bx.below hb1 bx.lt
          replace ho := own_below ho hb1
          clear hb1
          clear mc hlt0
          have mc := fun j => bx.cell j
          have hlt0 := bx.lt
          have hr6 := Reads.new w5 (strs [to_]) 9 1 1 rfl
          replace bx := bx.alloc (.cells #[.string to_] 9)
          replace ho := ho.alloc (.cells #[.string to_] 9)
          have hsz : g + 1 ≤ w5.heap.size := by have := hlt0; omega
          replace B0 := B0.alloc (show g ≤ w5.heap.size by omega) (.cells #[.string to_] 9)
          clear mc
          have mc := fun j => bx.cell j
          go_wp2_with (at_builtin; refine wpList_append_any _ rfl (.tmp 22) (.tmp 27) _ rfl (g + 1) 9 i0 _ 1 16 Tryd.underlying44 hi0 hz0 hs0 hb0 rfl (by omega) _ (3) _ rfl ho (w5.heap.size + 1) (some ⟨w5.heap.size, 0, none⟩) 1 1 (strs [to_]) rfl hr6 (strs_one _) (by unfold maxLen; omega) (by omega) (by simp only [World.size_alloc]; omega) ?_; intro v3 w6 ho3 hg3 hat3; replace bx := blk_appended bx ho hg3 (by omega); replace B0 := below_appended B0 ho hg3 (by omega) (by simp only [World.size_alloc]; omega); obtain ⟨A3, c3, rfl, _⟩ := own_reads ho3; rw [← strs_app] at ho3; clear ho hg3 hat3 hr6 hsz mc; have ho := ho3; clear ho3; have mc := fun j => bx.cell j; have hlt0 := bx.lt)
          refine (TN.out _).mono ?_
          rintro e w7 ⟨rfl, hb1⟩
          replace B0 := B0.trans (hb1.mono (Nat.le_of_lt bx.lt))
          replace bx := bx.below hb1 bx.lt
          replace ho := own_below ho hb1
          clear hb1
          clear mc hlt0
          have mc := fun j => bx.cell j
          have hlt0 := bx.lt
          have hr6 := Reads.new w7 (strs [tn]) 9 1 1 rfl
          replace bx := bx.alloc (.cells #[.string tn] 9)
          replace ho := ho.alloc (.cells #[.string tn] 9)
          have hsz : g + 1 ≤ w7.heap.size := by have := hlt0; omega
          replace B0 := B0.alloc (show g ≤ w7.heap.size by omega) (.cells #[.string tn] 9)
          clear mc
          have mc := fun j => bx.cell j
          go_wp2_with (at_builtin; refine wpList_append_any _ rfl (.tmp 39) (.tmp 44) _ rfl (g + 1) 9 i0 _ 1 16 Tryd.underlying44 hi0 hz0 hs0 hb0 rfl (by omega) _ (3 + 1) _ rfl ho (w7.heap.size + 1) (some ⟨w7.heap.size, 0, none⟩) 1 1 (strs [tn]) rfl hr6 (strs_one _) (by unfold maxLen; omega) (by omega) (by simp only [World.size_alloc]; omega) ?_; intro v3 w8 ho3 hg3 hat3; replace bx := blk_appended bx ho hg3 (by omega); replace B0 := below_appended B0 ho hg3 (by omega) (by simp only [World.size_alloc]; omega); obtain ⟨A3, c3, rfl, _⟩ := own_reads ho3; rw [← strs_app] at ho3; clear ho hg3 hat3 hr6 hsz mc; have ho := ho3; clear ho3; have mc := fun j => bx.cell j; have hlt0 := bx.lt)
          refine (TG.out _).mono ?_
          rintro e w9 ⟨rfl, hb1⟩
          replace B0 := B0.trans (hb1.mono (Nat.le_of_lt bx.lt))
          replace bx := bx.below hb1 bx.lt
          replace ho := own_below ho hb1
          clear hb1
          clear mc hlt0
          have mc := fun j => bx.cell j
          have hlt0 := bx.lt
          have hr6 := Reads.new w9 (strs [⟨#[61]⟩, tg]) 9 2 1 rfl
          replace bx := bx.alloc (.cells #[.string ⟨#[61]⟩, .string tg] 9)
          replace ho := ho.alloc (.cells #[.string ⟨#[61]⟩, .string tg] 9)
          have hsz : g + 1 ≤ w9.heap.size := by have := hlt0; omega
          replace B0 := B0.alloc (show g ≤ w9.heap.size by omega) (.cells #[.string ⟨#[61]⟩, .string tg] 9)
          clear mc
          have mc := fun j => bx.cell j
          go_wp2_with (at_builtin; refine wpList_append_any _ rfl (.tmp 46) (.tmp 50) _ rfl (g + 1) 9 i0 _ 1 16 Tryd.underlying44 hi0 hz0 hs0 hb0 rfl (by omega) _ (3 + 1 + 1) _ rfl ho (w9.heap.size + 1) (some ⟨w9.heap.size, 0, none⟩) 2 2 (strs [⟨#[61]⟩, tg]) rfl hr6 (strs_one _) (by unfold maxLen; omega) (by omega) (by simp only [World.size_alloc]; omega) ?_; intro v3 w10 ho3 hg3 hat3; replace bx := blk_appended bx ho hg3 (by omega); replace B0 := below_appended B0 ho hg3 (by omega) (by simp only [World.size_alloc]; omega); obtain ⟨A3, c3, rfl, _⟩ := own_reads ho3; rw [← strs_app] at ho3; clear ho hg3 hat3 hr6 hsz mc; have ho := ho3; clear ho3; have mc := fun j => bx.cell j; have hlt0 := bx.lt)
          replace ho : w10.ownsRow (g + 1) 9 1 (.slice A3 (7 + 0) c3) (7 + 0) (strs ([ith, nm, iat, to_, tn, eq1, tg] ++ (ms.take 0).map MarkR.text)) := ho
          generalize hW0 : [ith, nm, iat, to_, tn, eq1, tg] = W0 at *
          clear hW0 mc
          go_loopw [3, 55] (StI g N 7 #[.int .i64 th, .int .i64 3, .int .i64 at_, .int .u64 o, .int .u64 n, .int .u64 g', .slice A0 N cm] W0 ms w) (fun _ v _ => N - (intOf v).toNat)
          case atStart => exact ⟨0, A3, c3, rfl, by omega, rfl, ho, bx, B0⟩
          case round =>
            clear ho bx B0 hlt0
            obtain ⟨j, A, c, rfl, hj, rfl, ho, bx, B0⟩ := hrel
            have hlt0 := bx.lt
            by_cases hlt : j < N
            · have HRB := (HR.out.below B0)
              obtain ⟨ad, m, hA, hab, hmj, z0, zz⟩ := HRB.recAt MarkR.cells_len (by omega) hlt
              have z1 := zz 1 (by omega) (by omega)
              have z2 := zz 2 (by omega) (by omega)
              clear zz HRB
              subst hA
              have HMM := hide (marks_succ hmj)
              have MKJ := hide (fun w2 h => MK.out m (List.mem_of_getElem? hmj) w2 h)
              obtain ⟨mk, ma, mb⟩ := m
              replace z0 : wr.cell? (ad.add (j * 3)) = some (.int .i64 mk) := z0
              replace z1 : wr.cell? ⟨(ad.add (j * 3)).block, (ad.add (j * 3)).off + 1, none⟩ = some (.int .u64 ma) := z1
              replace z2 : wr.cell? ⟨(ad.add (j * 3)).block, (ad.add (j * 3)).off + 2, none⟩ = some (.int .u64 mb) := z2
              have MKJ2 := hide (show ∀ w2, Below g w w2 → Calls Tryd.prog 5 #[.agg #[.int .i64 mk, .int .u64 ma, .int .u64 mb]] w2 fun e w' => e = .returned (.string (MarkR.text (mk, ma, mb))) ∧ Below w2.heap.size w2 w' from MKJ.out)
              clear MKJ hmj hab
              generalize MarkR.text (mk, ma, mb) = tm at *
              have hltz : (j : Int) < (N : Int) := by omega
              have mb0 := Blk.new wr 32 #[.int .i64 mk, .int .u64 ma, .int .u64 mb]
              replace bx := bx.alloc (.cells #[.int .i64 mk, .int .u64 ma, .int .u64 mb] 32)
              replace ho := ho.alloc (.cells #[.int .i64 mk, .int .u64 ma, .int .u64 mb] 32)
              replace B0 := B0.alloc (show g ≤ wr.heap.size by omega) (.cells #[.int .i64 mk, .int .u64 ma, .int .u64 mb] 32)
              have mm := fun j => mb0.cell j
              go_wp2_with fail
              refine (MKJ2.out _ B0).mono ?_
              rintro e w7 ⟨rfl, hb1⟩
              replace B0 := B0.trans (hb1.mono (Nat.le_of_lt bx.lt))
              replace bx := bx.below hb1 bx.lt
              replace ho := own_below ho hb1
              clear hb1
              clear hlt0 mm mb0 z0 z1 z2
              have mc := fun j => bx.cell j
              have hlt0 := bx.lt
              have hr6 := Reads.new w7 (strs [tm]) 9 1 1 rfl
              replace bx := bx.alloc (.cells #[.string tm] 9)
              replace ho := ho.alloc (.cells #[.string tm] 9)
              have hsz : g + 1 ≤ w7.heap.size := by have := hlt0; omega
              replace B0 := B0.alloc (show g ≤ w7.heap.size by omega) (.cells #[.string tm] 9)
              clear mc
              have mc := fun j => bx.cell j
              go_wp2_with (at_builtin; refine wpList_append_any _ rfl (.tmp 59) (.tmp 62) _ rfl (g + 1) 9 i0 _ 1 16 Tryd.underlying44 hi0 hz0 hs0 hb0 rfl (by omega) _ (7 + j) _ rfl ho (w7.heap.size + 1) (some ⟨w7.heap.size, 0, none⟩) 1 1 (strs [tm]) rfl hr6 (strs_one _) (by unfold maxLen; omega) (by omega) (by simp only [World.size_alloc]; omega) ?_; intro v3 w8 ho3 hg3 hat3; replace bx := blk_appended bx ho hg3 (by omega); replace B0 := below_appended B0 ho hg3 (by omega) (by simp only [World.size_alloc]; omega); obtain ⟨A3, c3, rfl, _⟩ := own_reads ho3; rw [← strs_app] at ho3; clear ho hg3 hat3 hr6 hsz mc; have ho := ho3; clear ho3; have mc := fun j => bx.cell j; have hlt0 := bx.lt)
              go_roundw
              case rel => exact ⟨j + 1, A3, c3, by go_num, by omega, rfl, by rw [HMM.out, ← List.append_assoc]; exact ho, bx, B0⟩
              case measure => simp [intOf]; omega
            · obtain rfl : j = N := by omega
              have hmap : (ms.take j).map MarkR.text = ms.map MarkR.text := by rw [List.take_of_length_le (by rw [HN.out]; exact Nat.le_refl _)]
              rw [hmap] at ho
              have hE : R = joinT (W0 ++ ms.map MarkR.text) := E.out
              rw [hE] at HSZ
              have HE := hide hE
              clear hE
              generalize W0 ++ ms.map MarkR.text = ws at *
              have TX := hide (dtext_any (g + 1) (7 + j) c A ws wr ho (by omega) (by have := HSZ.out; omega) (by omega))
              generalize joinT ws = Q at *
              have mc := fun j => bx.cell j
              clear hmap E ho
              go_wp2_with fail
              refine (TX.out).mono ?_
              rintro e w9 ⟨rfl, hb1⟩
              go_wp2_with fail
              go_ret
              exact ⟨by rw [HE.out]; rfl, by rw [HGW.out]; exact B0.trans (hb1.mono (by omega))⟩
        exact AllReadyZ.nil
      exact AllReadyZ.nil
    exact AllReadyZ.nil
  exact AllReadyZ.nil
set_option maxRecDepth 100000 in
set_option maxHeartbeats 4000000 in
theorem step_2 (th at_ : Int) (o n g' : Nat) (ms : List MarkR) (A0 : Option Addr) (N cm : Nat) (w : World) (hT : Tab w) (ht : I64 th) (ha : I64 at_) (q1 : o < 18446744073709551616) (q2 : n < 18446744073709551616) (q3 : g' < 18446744073709551616)
    (hms : ∀ m ∈ ms, MarkOk m) (hN : ms.length = N) (hl : N ≤ 20) (hr : Reads w w.heap.size 3 A0 N (ms.flatMap MarkR.cells)) :
    Calls Tryd.prog 7 #[.agg #[.int .i64 th, .int .i64 2, .int .i64 at_, .int .u64 o, .int .u64 n, .int .u64 g', .slice A0 N cm]] w fun e w' => e = .returned (.string (stepT th 2 at_ o n g' ms)) ∧ Below w.heap.size w w' := by
  obtain ⟨i0, hi0, hz0, hs0, hb0⟩ := info_parts infoStr
  have B0 := (Below.refl w.heap.size w).alloc (Nat.le_refl _) (.cells #[.int .i64 th, .int .i64 2, .int .i64 at_, .int .u64 o, .int .u64 n, .int .u64 g', .slice A0 N cm] 29)
  have bx := Blk.new w 29 #[.int .i64 th, .int .i64 2, .int .i64 at_, .int .u64 o, .int .u64 n, .int .u64 g', .slice A0 N cm]
  have IT := hide (fun w2 => int_any th w2 ht)
  have IA := hide (fun w2 => int_any at_ w2 ha)
  have TO := hide (fun w2 => text_any o w2 q1)
  have TN := hide (fun w2 => text_any n w2 q2)
  have TG := hide (fun w2 => text_any g' w2 q3)
  have NM := hide (fun w2 (h : Below w.heap.size w w2) => named_any accS accL 2 w2 (hT.below h) ⟨by omega, by omega⟩ (by decide) accS_ascii acc_fields (by decide))
  rw [show accS = ⟨#[108, 111, 97, 100, 32, 115, 116, 111, 114, 101, 32, 99, 97, 115]⟩ from rfl] at NM
  have MK := hide (fun (m : MarkR) (hm : m ∈ ms) w2 (h : Below w.heap.size w w2) => mark_any m.1 m.2.1 m.2.2 w2 (hT.below h) (hms m hm).1 (hms m hm).2.1 (hms m hm).2.2)
  have HSZ := hide (stepT_size th 2 at_ o n g' ms (by omega))
  have E := hide (show stepT th 2 at_ o n g' ms = joinT ([intT th, nmd accL 2, intT at_, numT n, eq1, numT g'] ++ ms.map MarkR.text) by simp [stepT, stepW])
  rw [show strOfNums (intL th) = intT th from rfl] at IT
  rw [show strOfNums (intL at_) = intT at_ from rfl] at IA
  rw [show strOfNums (form 10 o) = numT o from rfl] at TO
  rw [show strOfNums (form 10 n) = numT n from rfl] at TN
  rw [show strOfNums (form 10 g') = numT g' from rfl] at TG
  generalize stepT th 2 at_ o n g' ms = R at *
  generalize nmd accL 2 = nm at *
  generalize intT th = ith at *
  generalize intT at_ = iat at *
  generalize numT o = to_ at *
  generalize numT n = tn at *
  generalize numT g' = tg at *
  have HR := hide hr
  have HN := hide hN
  clear hT ht ha q1 q2 q3 hr hN hms
  go_enter Tryd.func7, Tryd.ntmps7
  go_wp2_with fail
  generalize hgw : w.heap.size = g at *
  have HGW := hide hgw
  clear hgw
  generalize w.alloc (.cells #[.int .i64 th, .int .i64 2, .int .i64 at_, .int .u64 o, .int .u64 n, .int .u64 g', .slice A0 N cm] 29) = w0 at *
  refine wp_region_heldZ [] (fun w' => w'.cell? ⟨g, 0, none⟩ = some (.int .i64 th) ∧ w'.cell? ⟨g, 1, none⟩ = some (.int .i64 2) ∧ w'.cell? ⟨g, 2, none⟩ = some (.int .i64 at_)) (by kernel_rfl) (by exact ⟨bx.cell 0, bx.cell 1, bx.cell 2⟩) (fun hHeld => ?_)
  replace bx := bx.drew
  replace B0 := B0.drew
  generalize w0.drew = wd at *
  refine' wpAnyZ_takeA (i := 0) (v := ?_) (opAt rfl) (by kernel_rfl) (by kernel_rfl) (by kernel_rfl) (by kernel_rfl) (fun _ _ _ h => h) (by assumption) (by rfl) (fun w hSw => ?_) ?_
  rotate_left
  · (try dsimp only at hSw); go_simp; (try with_reducible rfl)
  try simp only [Act.put, List.setIfInBounds_toArray, List.set_cons_zero, List.set_cons_succ]
  refine' wpAnyZ_takeA (i := 1) (v := ?_) (opAt rfl) (by kernel_rfl) (by kernel_rfl) (by kernel_rfl) (by kernel_rfl) (fun _ _ _ h => h) (by assumption) (by rfl) (fun w hSw => ?_) ?_
  rotate_left
  · (try dsimp only at hSw); go_simp; (try with_reducible rfl)
  try simp only [Act.put, List.setIfInBounds_toArray, List.set_cons_zero, List.set_cons_succ]
  refine' wpAnyZ_takeA (i := 3) (v := ?_) (opAt rfl) (by kernel_rfl) (by kernel_rfl) (by kernel_rfl) (by kernel_rfl) (fun _ _ _ h => h) (by assumption) (by rfl) (fun w hSw => ?_) ?_
  rotate_left
  · (try dsimp only at hSw); go_simp; (try with_reducible rfl)
  try simp only [Act.put, List.setIfInBounds_toArray, List.set_cons_zero, List.set_cons_succ]
  refine' wpAnyZ_takeA (i := 4) (v := ?_) (opAt rfl) (by kernel_rfl) (by kernel_rfl) (by kernel_rfl) (by kernel_rfl) (fun _ _ _ h => h) (by assumption) (by rfl) (fun w hSw => ?_) ?_
  rotate_left
  · (try dsimp only at hSw); go_simp; (try with_reducible rfl)
  try simp only [Act.put, List.setIfInBounds_toArray, List.set_cons_zero, List.set_cons_succ]
  refine' wpAnyZ_takeA (i := 5) (v := ?_) (opAt rfl) (by kernel_rfl) (by kernel_rfl) (by kernel_rfl) (by kernel_rfl) (fun _ _ _ h => h) (by assumption) (by rfl) (fun w hSw => ?_) ?_
  rotate_left
  · (try dsimp only at hSw); go_simp; (try with_reducible rfl)
  try simp only [Act.put, List.setIfInBounds_toArray, List.set_cons_zero, List.set_cons_succ]
  refine' wpAnyZ_takeA (i := 7) (v := ?_) (opAt rfl) (by kernel_rfl) (by kernel_rfl) (by kernel_rfl) (by kernel_rfl) (fun _ _ _ h => h) (by assumption) (by rfl) (fun w hSw => ?_) ?_
  rotate_left
  · (try dsimp only at hSw); go_simp; (try with_reducible rfl)
  try simp only [Act.put, List.setIfInBounds_toArray, List.set_cons_zero, List.set_cons_succ]
  refine' wpAnyZ_takeA (i := 8) (v := ?_) (opAt rfl) (by kernel_rfl) (by kernel_rfl) (by kernel_rfl) (by kernel_rfl) (fun _ _ _ h => h) (by assumption) (by rfl) (fun w hSw => ?_) ?_
  rotate_left
  · (try dsimp only at hSw); go_simp; (try with_reducible rfl)
  try simp only [Act.put, List.setIfInBounds_toArray, List.set_cons_zero, List.set_cons_succ]
  refine' wpAnyZ_takeA (i := 9) (v := ?_) (opAt rfl) (by kernel_rfl) (by kernel_rfl) (by kernel_rfl) (by kernel_rfl) (fun _ _ _ h => h) (by assumption) (by rfl) (fun w hSw => ?_) ?_
  rotate_left
  · (try dsimp only at hSw); go_simp; (try with_reducible rfl)
  try simp only [Act.put, List.setIfInBounds_toArray, List.set_cons_zero, List.set_cons_succ]
  refine wpAnyZ_ready (rs := [2]) (by kernel_rfl) (by simp) ?_
  refine AllReadyZ.cons (opAt rfl) (fun K hK => ?_) ?_
  · skip
    go_simp
    refine (IT.out _).mono ?_
    rintro e w1 ⟨rfl, hb1⟩
    replace B0 := B0.trans (hb1.mono (Nat.le_of_lt bx.lt))
    replace bx := bx.below hb1 bx.lt
    clear hb1
    try go_wp2_with fail
    refine hK.out _ _ (by exact ⟨bx.cell 0, bx.cell 1, bx.cell 2⟩) (fun hHeld => ?_)
    clear hK K
    try simp only [Act.put, List.setIfInBounds_toArray, List.set_cons_zero, List.set_cons_succ]
    refine wpAnyZ_ready (rs := [6]) (by kernel_rfl) (by simp) ?_
    refine AllReadyZ.cons (opAt rfl) (fun K hK => ?_) ?_
    · skip
      go_simp
      refine (NM.out _ B0).mono ?_
      rintro e w2 ⟨rfl, hb1⟩
      replace B0 := B0.trans (hb1.mono (Nat.le_of_lt bx.lt))
      replace bx := bx.below hb1 bx.lt
      clear hb1
      try go_wp2_with fail
      refine hK.out _ _ (by exact ⟨bx.cell 0, bx.cell 1, bx.cell 2⟩) (fun hHeld => ?_)
      clear hK K
      try simp only [Act.put, List.setIfInBounds_toArray, List.set_cons_zero, List.set_cons_succ]
      refine wpAnyZ_ready (rs := [10]) (by kernel_rfl) (by simp) ?_
      refine AllReadyZ.cons (opAt rfl) (fun K hK => ?_) ?_
      · skip
        go_simp
        refine (IA.out _).mono ?_
        rintro e w3 ⟨rfl, hb1⟩
        replace B0 := B0.trans (hb1.mono (Nat.le_of_lt bx.lt))
        replace bx := bx.below hb1 bx.lt
        clear hb1
        try go_wp2_with fail
        refine hK.out _ _ (by exact ⟨bx.cell 0, bx.cell 1, bx.cell 2⟩) (fun hHeld => ?_)
        clear hK K
        try simp only [Act.put, List.setIfInBounds_toArray, List.set_cons_zero, List.set_cons_succ]
        refine wpAnyZ_ready (rs := [11]) (by kernel_rfl) (by simp) ?_
        refine AllReadyZ.cons (opAt rfl) (fun K hK => ?_) ?_
        · skip
          go_simp
          have hsz : g + 1 ≤ w3.heap.size := bx.lt
          have ho := own_lit w3 9 #[.string ith, .string nm, .string iat] 3 (g + 1) hsz rfl (by omega)
          replace bx := bx.alloc (.cells #[.string ith, .string nm, .string iat] 9)
          replace B0 := B0.alloc (by omega) (.cells #[.string ith, .string nm, .string iat] 9)
          clear hsz
          refine hK.out _ _ (by exact ⟨bx.cell 0, bx.cell 1, bx.cell 2⟩) (fun hHeld => ?_)
          clear hK K
          try simp only [Act.put, List.setIfInBounds_toArray, List.set_cons_zero, List.set_cons_succ]
          refine' wpAnyZ_takeA (i := 12) (v := ?_) (opAt rfl) (by kernel_rfl) (by kernel_rfl) (by kernel_rfl) (by kernel_rfl) (fun _ _ _ h => h) (by assumption) (by rfl) (fun w hSw => ?_) ?_
          rotate_left
          · (try dsimp only at hSw); go_simp; (try with_reducible rfl)
          try simp only [Act.put, List.setIfInBounds_toArray, List.set_cons_zero, List.set_cons_succ]
          refine wpAnyZ_done (by kernel_rfl) ?_ _
          generalize (w3.alloc (.cells #[.string ith, .string nm, .string iat] 9)) = w4 at *
          have mc := fun j => bx.cell j
          have hlt0 := bx.lt
          replace ho : w4.ownsRow (g + 1) 9 1 _ 3 (strs [ith, nm, iat]) := ho
          go_wp2_with fail
          refine (TN.out _).mono ?_
          rintro e w5 ⟨rfl, hb1⟩
          replace B0 := B0.trans (hb1.mono (Nat.le_of_lt bx.lt))
          replace bx := bx.below hb1 bx.lt
          replace ho := own_below ho hb1
          clear hb1
          clear mc hlt0
          have mc := fun j => bx.cell j
          have hlt0 := bx.lt
          have hr6 := Reads.new w5 (strs [tn]) 9 1 1 rfl
          replace bx := bx.alloc (.cells #[.string tn] 9)
          replace ho := ho.alloc (.cells #[.string tn] 9)
          have hsz : g + 1 ≤ w5.heap.size := by have := hlt0; omega
          replace B0 := B0.alloc (show g ≤ w5.heap.size by omega) (.cells #[.string tn] 9)
          clear mc
          have mc := fun j => bx.cell j
          go_wp2_with (at_builtin; refine wpList_append_any _ rfl (.tmp 39) (.tmp 44) _ rfl (g + 1) 9 i0 _ 1 16 Tryd.underlying44 hi0 hz0 hs0 hb0 rfl (by omega) _ (3) _ rfl ho (w5.heap.size + 1) (some ⟨w5.heap.size, 0, none⟩) 1 1 (strs [tn]) rfl hr6 (strs_one _) (by unfold maxLen; omega) (by omega) (by simp only [World.size_alloc]; omega) ?_; intro v3 w6 ho3 hg3 hat3; replace bx := blk_appended bx ho hg3 (by omega); replace B0 := below_appended B0 ho hg3 (by omega) (by simp only [World.size_alloc]; omega); obtain ⟨A3, c3, rfl, _⟩ := own_reads ho3; rw [← strs_app] at ho3; clear ho hg3 hat3 hr6 hsz mc; have ho := ho3; clear ho3; have mc := fun j => bx.cell j; have hlt0 := bx.lt)
          refine (TG.out _).mono ?_
          rintro e w7 ⟨rfl, hb1⟩
          replace B0 := B0.trans (hb1.mono (Nat.le_of_lt bx.lt))
          replace bx := bx.below hb1 bx.lt
          replace ho := own_below ho hb1
          clear hb1
          clear mc hlt0
          have mc := fun j => bx.cell j
          have hlt0 := bx.lt
          have hr6 := Reads.new w7 (strs [⟨#[61]⟩, tg]) 9 2 1 rfl
          replace bx := bx.alloc (.cells #[.string ⟨#[61]⟩, .string tg] 9)
          replace ho := ho.alloc (.cells #[.string ⟨#[61]⟩, .string tg] 9)
          have hsz : g + 1 ≤ w7.heap.size := by have := hlt0; omega
          replace B0 := B0.alloc (show g ≤ w7.heap.size by omega) (.cells #[.string ⟨#[61]⟩, .string tg] 9)
          clear mc
          have mc := fun j => bx.cell j
          go_wp2_with (at_builtin; refine wpList_append_any _ rfl (.tmp 46) (.tmp 50) _ rfl (g + 1) 9 i0 _ 1 16 Tryd.underlying44 hi0 hz0 hs0 hb0 rfl (by omega) _ (3 + 1) _ rfl ho (w7.heap.size + 1) (some ⟨w7.heap.size, 0, none⟩) 2 2 (strs [⟨#[61]⟩, tg]) rfl hr6 (strs_one _) (by unfold maxLen; omega) (by omega) (by simp only [World.size_alloc]; omega) ?_; intro v3 w8 ho3 hg3 hat3; replace bx := blk_appended bx ho hg3 (by omega); replace B0 := below_appended B0 ho hg3 (by omega) (by simp only [World.size_alloc]; omega); obtain ⟨A3, c3, rfl, _⟩ := own_reads ho3; rw [← strs_app] at ho3; clear ho hg3 hat3 hr6 hsz mc; have ho := ho3; clear ho3; have mc := fun j => bx.cell j; have hlt0 := bx.lt)
          replace ho : w8.ownsRow (g + 1) 9 1 (.slice A3 (6 + 0) c3) (6 + 0) (strs ([ith, nm, iat, tn, eq1, tg] ++ (ms.take 0).map MarkR.text)) := ho
          generalize hW0 : [ith, nm, iat, tn, eq1, tg] = W0 at *
          clear hW0 mc
          go_loopw [3, 55] (StI g N 6 #[.int .i64 th, .int .i64 2, .int .i64 at_, .int .u64 o, .int .u64 n, .int .u64 g', .slice A0 N cm] W0 ms w) (fun _ v _ => N - (intOf v).toNat)
          case atStart => exact ⟨0, A3, c3, rfl, by omega, rfl, ho, bx, B0⟩
          case round =>
            clear ho bx B0 hlt0
            obtain ⟨j, A, c, rfl, hj, rfl, ho, bx, B0⟩ := hrel
            have hlt0 := bx.lt
            by_cases hlt : j < N
            · have HRB := (HR.out.below B0)
              obtain ⟨ad, m, hA, hab, hmj, z0, zz⟩ := HRB.recAt MarkR.cells_len (by omega) hlt
              have z1 := zz 1 (by omega) (by omega)
              have z2 := zz 2 (by omega) (by omega)
              clear zz HRB
              subst hA
              have HMM := hide (marks_succ hmj)
              have MKJ := hide (fun w2 h => MK.out m (List.mem_of_getElem? hmj) w2 h)
              obtain ⟨mk, ma, mb⟩ := m
              replace z0 : wr.cell? (ad.add (j * 3)) = some (.int .i64 mk) := z0
              replace z1 : wr.cell? ⟨(ad.add (j * 3)).block, (ad.add (j * 3)).off + 1, none⟩ = some (.int .u64 ma) := z1
              replace z2 : wr.cell? ⟨(ad.add (j * 3)).block, (ad.add (j * 3)).off + 2, none⟩ = some (.int .u64 mb) := z2
              have MKJ2 := hide (show ∀ w2, Below g w w2 → Calls Tryd.prog 5 #[.agg #[.int .i64 mk, .int .u64 ma, .int .u64 mb]] w2 fun e w' => e = .returned (.string (MarkR.text (mk, ma, mb))) ∧ Below w2.heap.size w2 w' from MKJ.out)
              clear MKJ hmj hab
              generalize MarkR.text (mk, ma, mb) = tm at *
              have hltz : (j : Int) < (N : Int) := by omega
              have mb0 := Blk.new wr 32 #[.int .i64 mk, .int .u64 ma, .int .u64 mb]
              replace bx := bx.alloc (.cells #[.int .i64 mk, .int .u64 ma, .int .u64 mb] 32)
              replace ho := ho.alloc (.cells #[.int .i64 mk, .int .u64 ma, .int .u64 mb] 32)
              replace B0 := B0.alloc (show g ≤ wr.heap.size by omega) (.cells #[.int .i64 mk, .int .u64 ma, .int .u64 mb] 32)
              have mm := fun j => mb0.cell j
              go_wp2_with fail
              refine (MKJ2.out _ B0).mono ?_
              rintro e w7 ⟨rfl, hb1⟩
              replace B0 := B0.trans (hb1.mono (Nat.le_of_lt bx.lt))
              replace bx := bx.below hb1 bx.lt
              replace ho := own_below ho hb1
              clear hb1
              clear hlt0 mm mb0 z0 z1 z2
              have mc := fun j => bx.cell j
              have hlt0 := bx.lt
              have hr6 := Reads.new w7 (strs [tm]) 9 1 1 rfl
              replace bx := bx.alloc (.cells #[.string tm] 9)
              replace ho := ho.alloc (.cells #[.string tm] 9)
              have hsz : g + 1 ≤ w7.heap.size := by have := hlt0; omega
              replace B0 := B0.alloc (show g ≤ w7.heap.size by omega) (.cells #[.string tm] 9)
              clear mc
              have mc := fun j => bx.cell j
              go_wp2_with (at_builtin; refine wpList_append_any _ rfl (.tmp 59) (.tmp 62) _ rfl (g + 1) 9 i0 _ 1 16 Tryd.underlying44 hi0 hz0 hs0 hb0 rfl (by omega) _ (6 + j) _ rfl ho (w7.heap.size + 1) (some ⟨w7.heap.size, 0, none⟩) 1 1 (strs [tm]) rfl hr6 (strs_one _) (by unfold maxLen; omega) (by omega) (by simp only [World.size_alloc]; omega) ?_; intro v3 w8 ho3 hg3 hat3; replace bx := blk_appended bx ho hg3 (by omega); replace B0 := below_appended B0 ho hg3 (by omega) (by simp only [World.size_alloc]; omega); obtain ⟨A3, c3, rfl, _⟩ := own_reads ho3; rw [← strs_app] at ho3; clear ho hg3 hat3 hr6 hsz mc; have ho := ho3; clear ho3; have mc := fun j => bx.cell j; have hlt0 := bx.lt)
              go_roundw
              case rel => exact ⟨j + 1, A3, c3, by go_num, by omega, rfl, by rw [HMM.out, ← List.append_assoc]; exact ho, bx, B0⟩
              case measure => simp [intOf]; omega
            · obtain rfl : j = N := by omega
              have hmap : (ms.take j).map MarkR.text = ms.map MarkR.text := by rw [List.take_of_length_le (by rw [HN.out]; exact Nat.le_refl _)]
              rw [hmap] at ho
              have hE : R = joinT (W0 ++ ms.map MarkR.text) := E.out
              rw [hE] at HSZ
              have HE := hide hE
              clear hE
              generalize W0 ++ ms.map MarkR.text = ws at *
              have TX := hide (dtext_any (g + 1) (6 + j) c A ws wr ho (by omega) (by have := HSZ.out; omega) (by omega))
              generalize joinT ws = Q at *
              have mc := fun j => bx.cell j
              clear hmap E ho
              go_wp2_with fail
              refine (TX.out).mono ?_
              rintro e w9 ⟨rfl, hb1⟩
              go_wp2_with fail
              go_ret
              exact ⟨by rw [HE.out]; rfl, by rw [HGW.out]; exact B0.trans (hb1.mono (by omega))⟩
        exact AllReadyZ.nil
      exact AllReadyZ.nil
    exact AllReadyZ.nil
  exact AllReadyZ.nil
set_option maxRecDepth 100000 in
set_option maxHeartbeats 4000000 in
theorem step_x (th k at_ : Int) (o n g' : Nat) (ms : List MarkR) (A0 : Option Addr) (N cm : Nat) (w : World) (hT : Tab w) (hk : I64 k) (h3 : k ≠ 3) (h2 : k ≠ 2) (ht : I64 th) (ha : I64 at_) (q1 : o < 18446744073709551616) (q2 : n < 18446744073709551616) (q3 : g' < 18446744073709551616)
    (hms : ∀ m ∈ ms, MarkOk m) (hN : ms.length = N) (hl : N ≤ 20) (hr : Reads w w.heap.size 3 A0 N (ms.flatMap MarkR.cells)) :
    Calls Tryd.prog 7 #[.agg #[.int .i64 th, .int .i64 k, .int .i64 at_, .int .u64 o, .int .u64 n, .int .u64 g', .slice A0 N cm]] w fun e w' => e = .returned (.string (stepT th k at_ o n g' ms)) ∧ Below w.heap.size w w' := by
  obtain ⟨i0, hi0, hz0, hs0, hb0⟩ := info_parts infoStr
  have B0 := (Below.refl w.heap.size w).alloc (Nat.le_refl _) (.cells #[.int .i64 th, .int .i64 k, .int .i64 at_, .int .u64 o, .int .u64 n, .int .u64 g', .slice A0 N cm] 29)
  have bx := Blk.new w 29 #[.int .i64 th, .int .i64 k, .int .i64 at_, .int .u64 o, .int .u64 n, .int .u64 g', .slice A0 N cm]
  have IT := hide (fun w2 => int_any th w2 ht)
  have IA := hide (fun w2 => int_any at_ w2 ha)
  have TO := hide (fun w2 => text_any o w2 q1)
  have TN := hide (fun w2 => text_any n w2 q2)
  have TG := hide (fun w2 => text_any g' w2 q3)
  have NM := hide (fun w2 (h : Below w.heap.size w w2) => named_any accS accL k w2 (hT.below h) hk (by decide) accS_ascii acc_fields (by decide))
  rw [show accS = ⟨#[108, 111, 97, 100, 32, 115, 116, 111, 114, 101, 32, 99, 97, 115]⟩ from rfl] at NM
  have MK := hide (fun (m : MarkR) (hm : m ∈ ms) w2 (h : Below w.heap.size w w2) => mark_any m.1 m.2.1 m.2.2 w2 (hT.below h) (hms m hm).1 (hms m hm).2.1 (hms m hm).2.2)
  have HSZ := hide (stepT_size th k at_ o n g' ms (by omega))
  have E := hide (show stepT th k at_ o n g' ms = joinT ([intT th, nmd accL k, intT at_, eq1, numT g'] ++ ms.map MarkR.text) by simp [stepT, stepW, h3, h2])
  rw [show strOfNums (intL th) = intT th from rfl] at IT
  rw [show strOfNums (intL at_) = intT at_ from rfl] at IA
  rw [show strOfNums (form 10 o) = numT o from rfl] at TO
  rw [show strOfNums (form 10 n) = numT n from rfl] at TN
  rw [show strOfNums (form 10 g') = numT g' from rfl] at TG
  generalize stepT th k at_ o n g' ms = R at *
  generalize nmd accL k = nm at *
  generalize intT th = ith at *
  generalize intT at_ = iat at *
  generalize numT o = to_ at *
  generalize numT n = tn at *
  generalize numT g' = tg at *
  have HR := hide hr
  have HN := hide hN
  have k3 : (k == 3) = false := by simpa using h3
  have k2 : (k == 2) = false := by simpa using h2
  clear hT ht ha q1 q2 q3 hr hN hms hk h3 h2
  go_enter Tryd.func7, Tryd.ntmps7
  go_wp2_with fail
  generalize hgw : w.heap.size = g at *
  have HGW := hide hgw
  clear hgw
  generalize w.alloc (.cells #[.int .i64 th, .int .i64 k, .int .i64 at_, .int .u64 o, .int .u64 n, .int .u64 g', .slice A0 N cm] 29) = w0 at *
  refine wp_region_heldZ [] (fun w' => w'.cell? ⟨g, 0, none⟩ = some (.int .i64 th) ∧ w'.cell? ⟨g, 1, none⟩ = some (.int .i64 k) ∧ w'.cell? ⟨g, 2, none⟩ = some (.int .i64 at_)) (by kernel_rfl) (by exact ⟨bx.cell 0, bx.cell 1, bx.cell 2⟩) (fun hHeld => ?_)
  replace bx := bx.drew
  replace B0 := B0.drew
  generalize w0.drew = wd at *
  refine' wpAnyZ_takeA (i := 0) (v := ?_) (opAt rfl) (by kernel_rfl) (by kernel_rfl) (by kernel_rfl) (by kernel_rfl) (fun _ _ _ h => h) (by assumption) (by rfl) (fun w hSw => ?_) ?_
  rotate_left
  · (try dsimp only at hSw); go_simp; (try with_reducible rfl)
  try simp only [Act.put, List.setIfInBounds_toArray, List.set_cons_zero, List.set_cons_succ]
  refine' wpAnyZ_takeA (i := 1) (v := ?_) (opAt rfl) (by kernel_rfl) (by kernel_rfl) (by kernel_rfl) (by kernel_rfl) (fun _ _ _ h => h) (by assumption) (by rfl) (fun w hSw => ?_) ?_
  rotate_left
  · (try dsimp only at hSw); go_simp; (try with_reducible rfl)
  try simp only [Act.put, List.setIfInBounds_toArray, List.set_cons_zero, List.set_cons_succ]
  refine' wpAnyZ_takeA (i := 3) (v := ?_) (opAt rfl) (by kernel_rfl) (by kernel_rfl) (by kernel_rfl) (by kernel_rfl) (fun _ _ _ h => h) (by assumption) (by rfl) (fun w hSw => ?_) ?_
  rotate_left
  · (try dsimp only at hSw); go_simp; (try with_reducible rfl)
  try simp only [Act.put, List.setIfInBounds_toArray, List.set_cons_zero, List.set_cons_succ]
  refine' wpAnyZ_takeA (i := 4) (v := ?_) (opAt rfl) (by kernel_rfl) (by kernel_rfl) (by kernel_rfl) (by kernel_rfl) (fun _ _ _ h => h) (by assumption) (by rfl) (fun w hSw => ?_) ?_
  rotate_left
  · (try dsimp only at hSw); go_simp; (try with_reducible rfl)
  try simp only [Act.put, List.setIfInBounds_toArray, List.set_cons_zero, List.set_cons_succ]
  refine' wpAnyZ_takeA (i := 5) (v := ?_) (opAt rfl) (by kernel_rfl) (by kernel_rfl) (by kernel_rfl) (by kernel_rfl) (fun _ _ _ h => h) (by assumption) (by rfl) (fun w hSw => ?_) ?_
  rotate_left
  · (try dsimp only at hSw); go_simp; (try with_reducible rfl)
  try simp only [Act.put, List.setIfInBounds_toArray, List.set_cons_zero, List.set_cons_succ]
  refine' wpAnyZ_takeA (i := 7) (v := ?_) (opAt rfl) (by kernel_rfl) (by kernel_rfl) (by kernel_rfl) (by kernel_rfl) (fun _ _ _ h => h) (by assumption) (by rfl) (fun w hSw => ?_) ?_
  rotate_left
  · (try dsimp only at hSw); go_simp; (try with_reducible rfl)
  try simp only [Act.put, List.setIfInBounds_toArray, List.set_cons_zero, List.set_cons_succ]
  refine' wpAnyZ_takeA (i := 8) (v := ?_) (opAt rfl) (by kernel_rfl) (by kernel_rfl) (by kernel_rfl) (by kernel_rfl) (fun _ _ _ h => h) (by assumption) (by rfl) (fun w hSw => ?_) ?_
  rotate_left
  · (try dsimp only at hSw); go_simp; (try with_reducible rfl)
  try simp only [Act.put, List.setIfInBounds_toArray, List.set_cons_zero, List.set_cons_succ]
  refine' wpAnyZ_takeA (i := 9) (v := ?_) (opAt rfl) (by kernel_rfl) (by kernel_rfl) (by kernel_rfl) (by kernel_rfl) (fun _ _ _ h => h) (by assumption) (by rfl) (fun w hSw => ?_) ?_
  rotate_left
  · (try dsimp only at hSw); go_simp; (try with_reducible rfl)
  try simp only [Act.put, List.setIfInBounds_toArray, List.set_cons_zero, List.set_cons_succ]
  refine wpAnyZ_ready (rs := [2]) (by kernel_rfl) (by simp) ?_
  refine AllReadyZ.cons (opAt rfl) (fun K hK => ?_) ?_
  · skip
    go_simp
    refine (IT.out _).mono ?_
    rintro e w1 ⟨rfl, hb1⟩
    replace B0 := B0.trans (hb1.mono (Nat.le_of_lt bx.lt))
    replace bx := bx.below hb1 bx.lt
    clear hb1
    try go_wp2_with fail
    refine hK.out _ _ (by exact ⟨bx.cell 0, bx.cell 1, bx.cell 2⟩) (fun hHeld => ?_)
    clear hK K
    try simp only [Act.put, List.setIfInBounds_toArray, List.set_cons_zero, List.set_cons_succ]
    refine wpAnyZ_ready (rs := [6]) (by kernel_rfl) (by simp) ?_
    refine AllReadyZ.cons (opAt rfl) (fun K hK => ?_) ?_
    · skip
      go_simp
      refine (NM.out _ B0).mono ?_
      rintro e w2 ⟨rfl, hb1⟩
      replace B0 := B0.trans (hb1.mono (Nat.le_of_lt bx.lt))
      replace bx := bx.below hb1 bx.lt
      clear hb1
      try go_wp2_with fail
      refine hK.out _ _ (by exact ⟨bx.cell 0, bx.cell 1, bx.cell 2⟩) (fun hHeld => ?_)
      clear hK K
      try simp only [Act.put, List.setIfInBounds_toArray, List.set_cons_zero, List.set_cons_succ]
      refine wpAnyZ_ready (rs := [10]) (by kernel_rfl) (by simp) ?_
      refine AllReadyZ.cons (opAt rfl) (fun K hK => ?_) ?_
      · skip
        go_simp
        refine (IA.out _).mono ?_
        rintro e w3 ⟨rfl, hb1⟩
        replace B0 := B0.trans (hb1.mono (Nat.le_of_lt bx.lt))
        replace bx := bx.below hb1 bx.lt
        clear hb1
        try go_wp2_with fail
        refine hK.out _ _ (by exact ⟨bx.cell 0, bx.cell 1, bx.cell 2⟩) (fun hHeld => ?_)
        clear hK K
        try simp only [Act.put, List.setIfInBounds_toArray, List.set_cons_zero, List.set_cons_succ]
        refine wpAnyZ_ready (rs := [11]) (by kernel_rfl) (by simp) ?_
        refine AllReadyZ.cons (opAt rfl) (fun K hK => ?_) ?_
        · skip
          go_simp
          have hsz : g + 1 ≤ w3.heap.size := bx.lt
          have ho := own_lit w3 9 #[.string ith, .string nm, .string iat] 3 (g + 1) hsz rfl (by omega)
          replace bx := bx.alloc (.cells #[.string ith, .string nm, .string iat] 9)
          replace B0 := B0.alloc (by omega) (.cells #[.string ith, .string nm, .string iat] 9)
          clear hsz
          refine hK.out _ _ (by exact ⟨bx.cell 0, bx.cell 1, bx.cell 2⟩) (fun hHeld => ?_)
          clear hK K
          try simp only [Act.put, List.setIfInBounds_toArray, List.set_cons_zero, List.set_cons_succ]
          refine' wpAnyZ_takeA (i := 12) (v := ?_) (opAt rfl) (by kernel_rfl) (by kernel_rfl) (by kernel_rfl) (by kernel_rfl) (fun _ _ _ h => h) (by assumption) (by rfl) (fun w hSw => ?_) ?_
          rotate_left
          · (try dsimp only at hSw); go_simp; (try with_reducible rfl)
          try simp only [Act.put, List.setIfInBounds_toArray, List.set_cons_zero, List.set_cons_succ]
          refine wpAnyZ_done (by kernel_rfl) ?_ _
          generalize (w3.alloc (.cells #[.string ith, .string nm, .string iat] 9)) = w4 at *
          have mc := fun j => bx.cell j
          have hlt0 := bx.lt
          replace ho : w4.ownsRow (g + 1) 9 1 _ 3 (strs [ith, nm, iat]) := ho
          go_wp2_with fail
          refine (TG.out _).mono ?_
          rintro e w5 ⟨rfl, hb1⟩
          replace B0 := B0.trans (hb1.mono (Nat.le_of_lt bx.lt))
          replace bx := bx.below hb1 bx.lt
          replace ho := own_below ho hb1
          clear hb1
          clear mc hlt0
          have mc := fun j => bx.cell j
          have hlt0 := bx.lt
          have hr6 := Reads.new w5 (strs [⟨#[61]⟩, tg]) 9 2 1 rfl
          replace bx := bx.alloc (.cells #[.string ⟨#[61]⟩, .string tg] 9)
          replace ho := ho.alloc (.cells #[.string ⟨#[61]⟩, .string tg] 9)
          have hsz : g + 1 ≤ w5.heap.size := by have := hlt0; omega
          replace B0 := B0.alloc (show g ≤ w5.heap.size by omega) (.cells #[.string ⟨#[61]⟩, .string tg] 9)
          clear mc
          have mc := fun j => bx.cell j
          go_wp2_with (at_builtin; refine wpList_append_any _ rfl (.tmp 46) (.tmp 50) _ rfl (g + 1) 9 i0 _ 1 16 Tryd.underlying44 hi0 hz0 hs0 hb0 rfl (by omega) _ (3) _ rfl ho (w5.heap.size + 1) (some ⟨w5.heap.size, 0, none⟩) 2 2 (strs [⟨#[61]⟩, tg]) rfl hr6 (strs_one _) (by unfold maxLen; omega) (by omega) (by simp only [World.size_alloc]; omega) ?_; intro v3 w6 ho3 hg3 hat3; replace bx := blk_appended bx ho hg3 (by omega); replace B0 := below_appended B0 ho hg3 (by omega) (by simp only [World.size_alloc]; omega); obtain ⟨A3, c3, rfl, _⟩ := own_reads ho3; rw [← strs_app] at ho3; clear ho hg3 hat3 hr6 hsz mc; have ho := ho3; clear ho3; have mc := fun j => bx.cell j; have hlt0 := bx.lt)
          replace ho : w6.ownsRow (g + 1) 9 1 (.slice A3 (5 + 0) c3) (5 + 0) (strs ([ith, nm, iat, eq1, tg] ++ (ms.take 0).map MarkR.text)) := ho
          generalize hW0 : [ith, nm, iat, eq1, tg] = W0 at *
          clear hW0 mc
          go_loopw [3, 55] (StI g N 5 #[.int .i64 th, .int .i64 k, .int .i64 at_, .int .u64 o, .int .u64 n, .int .u64 g', .slice A0 N cm] W0 ms w) (fun _ v _ => N - (intOf v).toNat)
          case atStart => exact ⟨0, A3, c3, rfl, by omega, rfl, ho, bx, B0⟩
          case round =>
            clear ho bx B0 hlt0
            obtain ⟨j, A, c, rfl, hj, rfl, ho, bx, B0⟩ := hrel
            have hlt0 := bx.lt
            by_cases hlt : j < N
            · have HRB := (HR.out.below B0)
              obtain ⟨ad, m, hA, hab, hmj, z0, zz⟩ := HRB.recAt MarkR.cells_len (by omega) hlt
              have z1 := zz 1 (by omega) (by omega)
              have z2 := zz 2 (by omega) (by omega)
              clear zz HRB
              subst hA
              have HMM := hide (marks_succ hmj)
              have MKJ := hide (fun w2 h => MK.out m (List.mem_of_getElem? hmj) w2 h)
              obtain ⟨mk, ma, mb⟩ := m
              replace z0 : wr.cell? (ad.add (j * 3)) = some (.int .i64 mk) := z0
              replace z1 : wr.cell? ⟨(ad.add (j * 3)).block, (ad.add (j * 3)).off + 1, none⟩ = some (.int .u64 ma) := z1
              replace z2 : wr.cell? ⟨(ad.add (j * 3)).block, (ad.add (j * 3)).off + 2, none⟩ = some (.int .u64 mb) := z2
              have MKJ2 := hide (show ∀ w2, Below g w w2 → Calls Tryd.prog 5 #[.agg #[.int .i64 mk, .int .u64 ma, .int .u64 mb]] w2 fun e w' => e = .returned (.string (MarkR.text (mk, ma, mb))) ∧ Below w2.heap.size w2 w' from MKJ.out)
              clear MKJ hmj hab
              generalize MarkR.text (mk, ma, mb) = tm at *
              have hltz : (j : Int) < (N : Int) := by omega
              have mb0 := Blk.new wr 32 #[.int .i64 mk, .int .u64 ma, .int .u64 mb]
              replace bx := bx.alloc (.cells #[.int .i64 mk, .int .u64 ma, .int .u64 mb] 32)
              replace ho := ho.alloc (.cells #[.int .i64 mk, .int .u64 ma, .int .u64 mb] 32)
              replace B0 := B0.alloc (show g ≤ wr.heap.size by omega) (.cells #[.int .i64 mk, .int .u64 ma, .int .u64 mb] 32)
              have mm := fun j => mb0.cell j
              go_wp2_with fail
              refine (MKJ2.out _ B0).mono ?_
              rintro e w7 ⟨rfl, hb1⟩
              replace B0 := B0.trans (hb1.mono (Nat.le_of_lt bx.lt))
              replace bx := bx.below hb1 bx.lt
              replace ho := own_below ho hb1
              clear hb1
              clear hlt0 mm mb0 z0 z1 z2
              have mc := fun j => bx.cell j
              have hlt0 := bx.lt
              have hr6 := Reads.new w7 (strs [tm]) 9 1 1 rfl
              replace bx := bx.alloc (.cells #[.string tm] 9)
              replace ho := ho.alloc (.cells #[.string tm] 9)
              have hsz : g + 1 ≤ w7.heap.size := by have := hlt0; omega
              replace B0 := B0.alloc (show g ≤ w7.heap.size by omega) (.cells #[.string tm] 9)
              clear mc
              have mc := fun j => bx.cell j
              go_wp2_with (at_builtin; refine wpList_append_any _ rfl (.tmp 59) (.tmp 62) _ rfl (g + 1) 9 i0 _ 1 16 Tryd.underlying44 hi0 hz0 hs0 hb0 rfl (by omega) _ (5 + j) _ rfl ho (w7.heap.size + 1) (some ⟨w7.heap.size, 0, none⟩) 1 1 (strs [tm]) rfl hr6 (strs_one _) (by unfold maxLen; omega) (by omega) (by simp only [World.size_alloc]; omega) ?_; intro v3 w8 ho3 hg3 hat3; replace bx := blk_appended bx ho hg3 (by omega); replace B0 := below_appended B0 ho hg3 (by omega) (by simp only [World.size_alloc]; omega); obtain ⟨A3, c3, rfl, _⟩ := own_reads ho3; rw [← strs_app] at ho3; clear ho hg3 hat3 hr6 hsz mc; have ho := ho3; clear ho3; have mc := fun j => bx.cell j; have hlt0 := bx.lt)
              go_roundw
              case rel => exact ⟨j + 1, A3, c3, by go_num, by omega, rfl, by rw [HMM.out, ← List.append_assoc]; exact ho, bx, B0⟩
              case measure => simp [intOf]; omega
            · obtain rfl : j = N := by omega
              have hmap : (ms.take j).map MarkR.text = ms.map MarkR.text := by rw [List.take_of_length_le (by rw [HN.out]; exact Nat.le_refl _)]
              rw [hmap] at ho
              have hE : R = joinT (W0 ++ ms.map MarkR.text) := E.out
              rw [hE] at HSZ
              have HE := hide hE
              clear hE
              generalize W0 ++ ms.map MarkR.text = ws at *
              have TX := hide (dtext_any (g + 1) (5 + j) c A ws wr ho (by omega) (by have := HSZ.out; omega) (by omega))
              generalize joinT ws = Q at *
              have mc := fun j => bx.cell j
              clear hmap E ho
              go_wp2_with fail
              refine (TX.out).mono ?_
              rintro e w9 ⟨rfl, hb1⟩
              go_wp2_with fail
              go_ret
              exact ⟨by rw [HE.out]; rfl, by rw [HGW.out]; exact B0.trans (hb1.mono (by omega))⟩
        exact AllReadyZ.nil
      exact AllReadyZ.nil
    exact AllReadyZ.nil
  exact AllReadyZ.nil
end Go.Proofs.YtlnckjemfabckaaDoor

/-
  dump.Tree; chapter 38's example.
-/
namespace Go.Proofs.YtlnckjemfabckaaDoor
open Go.RowKit

theorem dnode_yes (gm gw : Nat) (s t f l p k : Int) (ws : List Int) (w : World) (hs : 1 ≤ s ∧ s ≤ 1000) (ht : 1 ≤ t ∧ t ≤ 64) (hf : 4 ≤ f ∧ f ≤ 64) (hk : 0 ≤ k ∧ k ≤ s) (M : MemOk w gm gw s t f l p ws) (h64 : AllW64 ws) :
    Calls Tryd.prog 35 #[.pointer (some ⟨gm, 0, none⟩), .int .i64 k] w fun e w' => e = .returned (.string (nodeT ws t f k)) ∧ Below w.heap.size w w' := by
  cases hin : nodI ws t f k with
  | true => exact dnode_in gm gw s t f l p k ws w hs ht hf hk M h64 hin
  | false => exact dnode_leaf gm gw s t f l p k ws w hs ht hf hk M h64 hin
set_option maxHeartbeats 400000 in
theorem dtree1_any (gm gw bx : Nat) (s t f l p k : Int) (ws : List Int) (w : World) (hs : 1 ≤ s ∧ s ≤ 1000) (ht : 1 ≤ t ∧ t ≤ 64) (hf : 4 ≤ f ∧ f ≤ 64) (hk : 0 ≤ k ∧ k ≤ s) (M : MemOk w gm gw s t f l p ws) (h64 : AllW64 ws) (hbx : Blk w bx 36 #[.pointer (some ⟨gm, 0, none⟩)]) :
    Calls Tryd.prog 34 #[.int .i64 k, .pointer (some ⟨bx, 0, none⟩)] w fun e w' => e = .returned (.string (nodeT ws t f k)) ∧ Below w.heap.size w w' := by
  have F := hide (dnode_yes gm gw s t f l p k ws w hs ht hf hk M h64)
  have mc := hbx.cell 0
  generalize nodeT ws t f k = R at *
  clear hs ht hf hk M h64
  go_enter Tryd.func34, Tryd.ntmps34
  go_wp2_with fail
  refine F.out.mono ?_
  rintro e w1 ⟨rfl, hb1⟩
  go_wp2_with fail
  go_ret
  exact ⟨rfl, hb1⟩
def treeT (ws : List Int) (s t f : Int) : ByteArray := linesT ((0 :: treeL ws s t f).map (nodeT ws t f))
theorem treeL_in (ws : List Int) (s t f : Int) (hs : 0 ≤ s) : ∀ x ∈ 0 :: treeL ws s t f, 0 ≤ x ∧ x ≤ s := by
  intro x hx
  rcases List.mem_cons.1 hx with rfl | hx
  · exact ⟨by omega, hs⟩
  · have := (comeN_nice (ndOf ws t f) s (s.toNat + 1) (wGet ws (nB t f 0 + 3 + f)) [] (nice_nil s)).1.2 x hx
    omega
theorem treeL_len (ws : List Int) (s t f : Int) (hs : 0 ≤ s) : (treeL ws s t f).length ≤ s.toNat :=
  nice_le (comeN_nice (ndOf ws t f) s (s.toNat + 1) (wGet ws (nB t f 0 + 3 + f)) [] (nice_nil s)).1 hs
theorem ints_flat (l : List Int) : ints .i64 l = l.flatMap fun x => [Value.int .i64 x] := by
  induction l with
  | nil => rfl
  | cons a l ih => simp [ints] at ih ⊢; exact ih
theorem infoInt : (Tryd.prog.info? 3).map (fun i => (i.zero, i.size, i.bytes)) = some (some (.int .i64 0), 1, 8) := by kernel_rfl
set_option maxRecDepth 100000 in
set_option maxHeartbeats 2000000 in
theorem dtree_yes (gm gw : Nat) (s t f l p : Int) (ws : List Int) (w : World) (hs : 1 ≤ s ∧ s ≤ 1000) (ht : 1 ≤ t ∧ t ≤ 64) (hf : 4 ≤ f ∧ f ≤ 64) (M : MemOk w gm gw s t f l p ws) (h64 : AllW64 ws) :
    Calls Tryd.prog 11 #[.pointer (some ⟨gm, 0, none⟩)] w fun e w' => e = .returned (.string (treeT ws s t f)) ∧ Below w.heap.size w w' := by
  obtain ⟨i0, hi0, hz0, hs0, hb0⟩ := info_parts infoInt
  have SZ := hide (fun w2 => size_any s t f l p w2 hs ht hf)
  have hsz := size_pos hs ht hf
  have hq : (laySize s t f == 0) = false := by simp; omega
  have TR := hide (fun w2 M => atree_any gm gw s t f l p ws w2 hs ht hf M h64)
  have HTL := hide (treeL_len ws s t f (by omega))
  have LN := hide (fun (bx : Nat) (A : Option Addr) (n c : Nat) (w2 : World) (M : MemOk w2 gm gw s t f l p ws) (hbx : Blk w2 bx 36 #[.pointer (some ⟨gm, 0, none⟩)]) (hr : Reads w2 w2.heap.size 1 A n (ints .i64 (0 :: treeL ws s t f))) (hn : n ≤ 5000) =>
    lines_int A n c (0 :: treeL ws s t f) (nodeT ws t f) bx w2 (by rw [← ints_flat]; exact hr) hn (fun k hk w3 hb => dtree1_any gm gw bx s t f l p k ws w3 hs ht hf (treeL_in ws s t f (by omega) k hk) (M.below hb) h64 (hbx.below hb hbx.lt)) (fun k _ => nodeT_size ws t f k h64 hf))
  rw [show linesT ((0 :: treeL ws s t f).map (nodeT ws t f)) = treeT ws s t f from rfl] at LN
  generalize treeT ws s t f = R at *
  have hsN : s.toNat ≤ 1000 := by omega
  replace HTL := hide (Nat.le_trans HTL.out hsN)
  generalize treeL ws s t f = L at *
  generalize laySize s t f = z at *
  have B0 := (Below.refl w.heap.size w).alloc (Nat.le_refl _) (.cells #[.pointer (some ⟨gm, 0, none⟩)] 36)
  have bx := Blk.new w 36 #[.pointer (some ⟨gm, 0, none⟩)]
  replace M := M.below ((Below.refl w.heap.size w).alloc (Nat.le_refl _) (.cells #[.pointer (some ⟨gm, 0, none⟩)] 36))
  obtain ⟨m0, m1, m2, m3, m4⟩ := mem5 M
  have mc := bx.cell 0
  clear hs ht hf h64 hsz hsN
  go_enter Tryd.func11, Tryd.ntmps11
  go_wp2_with fail
  refine (SZ.out _).mono ?_
  rintro e w1 ⟨rfl, hb1⟩
  replace M := M.below hb1
  replace bx := bx.below hb1 bx.lt
  replace B0 := B0.trans (hb1.mono B0.size)
  clear hb1 mc m0 m1 m2 m3 m4
  have hbl0 := bx.lt
  have HGM := hide (And.intro (Blk.lt M.1) (Blk.lt M.2.1))
  have ho := own_lit w1 3 #[.int .i64 0] 1 w1.heap.size (Nat.le_refl _) rfl (by omega)
  replace M := M.below ((Below.refl w1.heap.size w1).alloc (Nat.le_refl _) (.cells #[.int .i64 0] 3))
  replace bx := bx.alloc (.cells #[.int .i64 0] 3)
  have B1 := (Below.refl w1.heap.size w1).alloc (Nat.le_refl _) (.cells #[.int .i64 0] 3)
  have mc := bx.cell 0
  go_wp2_with fail
  generalize hg : w1.heap.size = g at *
  generalize w1.alloc (.cells #[.int .i64 0] 3) = w2 at *
  have HG := hide hg
  clear hg
  refine (TR.out _ M).mono ?_
  rintro e w3 ⟨⟨A, c, rfl, ho2⟩, hb1⟩
  replace M := M.below hb1
  replace bx := bx.below hb1 bx.lt
  replace ho := own_below ho hb1
  have B1s := B1.size
  rw [HG.out] at B1s
  replace B1 := B1.trans (hb1.mono B1s)
  clear hb1 mc B1s
  have hr6 := Reads.of_own ho2
  have hgs : g ≤ w3.heap.size := by have := B1.size; rw [HG.out] at this; exact this
  have HL := HTL.out
  go_wp2_with (at_builtin; refine wpList_append_any _ rfl (.tmp 13) (.tmp 15) _ rfl g 3 i0 _ 1 8 Tryd.underlying66 hi0 hz0 hs0 hb0 rfl (by omega) _ 1 _ rfl ho w3.heap.size A L.length c (ints .i64 L) rfl hr6 (ints_one _) (by unfold maxLen; omega) (by omega) hgs ?_; intro v3 w4 ho3 hg3 hat3; obtain ⟨A3, c3, rfl, hr3⟩ := own_reads ho3; replace bx := blk_appended bx ho hg3 hbl0)
  replace B1 := below_appended B1 ho hg3 (Nat.le_refl _) hgs
  have h1 := HGM.out.1
  have h2 := HGM.out.2
  replace M := M.grown hg3 (fun e => by have := (ho.lt gm e.symm).1; omega) (fun e => by have := (ho.lt gw e.symm).1; omega)
  have LNC := LN.out w.heap.size A3 (1 + L.length) c3 w4 M bx hr3 (by omega)
  have B0s := B0.size
  replace B0 := B0.trans (B1.mono (show w.heap.size ≤ g by omega))
  clear LN ho hg3 hat3 hr6 hr3 B1 h1 h2
  refine LNC.mono ?_
  rintro e w5 ⟨rfl, hb1⟩
  go_wp2_with fail
  go_ret
  exact ⟨rfl, B0.trans (hb1.mono B0.size)⟩
set_option maxRecDepth 100000 in
theorem beg_tree : treeT (begL 3 1 4) 3 1 4 = ⟨#[97, 110, 99, 104, 111, 114, 32, 105, 110, 110, 101, 114, 32, 49, 58, 49, 10, 49, 58, 49, 32, 108, 101, 97, 102, 10]⟩ := by
  unfold treeT
  rw [tree_beg (by omega) (by omega) (by omega)]
  kernel_rfl
theorem beg_step : stepT 2 1 0 0 0 5 [(5, 0, 0)] = ⟨#[50, 32, 108, 111, 97, 100, 32, 48, 32, 61, 32, 53, 32, 97, 103, 97, 105, 110]⟩ := by kernel_rfl
set_option maxRecDepth 100000 in
set_option maxHeartbeats 2000000 in
theorem awake38 (w : World) (hT : Tab w) : Calls Tryd.prog 4 #[] w fun e w' => e = .returned (.bool true) ∧ Below w.heap.size w w' := by
  have N := hide (anew10_yes 3 1 4 1 3 50 w hT (by decide) (by decide))
  have T := hide (fun gm gw w2 (M : MemOk w2 gm gw 3 1 4 1 3 (begL 3 1 4)) => dtree_yes gm gw 3 1 4 1 3 (begL 3 1 4) w2 (by omega) (by omega) (by omega) M (begL_w64 (by omega)))
  rw [beg_tree] at T
  have ST := hide (fun (w2 : World) (hb : Below w.heap.size w w2) (bl : Blk w2 (w2.heap.size - 1) 32 #[.int .i64 5, .int .u64 0, .int .u64 0]) => step_x 2 1 0 0 0 5 [(5, 0, 0)] (some ⟨w2.heap.size - 1, 0, none⟩) 1 1 w2 (hT.below hb) ⟨by omega, by omega⟩ (by omega) (by omega) ⟨by omega, by omega⟩ ⟨by omega, by omega⟩ (by omega) (by omega) (by omega)
    (fun m hm => by
      rw [List.mem_singleton] at hm
      subst hm
      exact ⟨⟨by decide, by decide⟩, by decide, by decide⟩) rfl (by omega) ((Reads.blk bl 1 3 rfl).more (by have := bl.lt; omega)))
  rw [beg_step] at ST
  clear hT
  go_enter Tryd.func4, Tryd.ntmps4
  go_wp2_with fail
  refine (N.out).mono ?_
  rintro e w1 ⟨⟨gm, gw, rfl, M, _, _⟩, hb1⟩
  go_wp2_with fail
  refine (T.out _ _ _ M).mono ?_
  rintro e w2 ⟨rfl, hb2⟩
  replace hb1 := hb1.trans (hb2.mono hb1.size)
  clear hb2 M
  have bl := Blk.new w2 32 #[.int .i64 5, .int .u64 0, .int .u64 0]
  replace hb1 := hb1.alloc hb1.size (.cells #[.int .i64 5, .int .u64 0, .int .u64 0] 32)
  have S2 := ST.out _ hb1
  rw [World.size_alloc, Nat.add_sub_cancel] at S2
  have S3 := hide (S2 bl)
  clear S2 ST bl
  go_wp2_with fail
  refine S3.out.mono ?_
  rintro e w3 ⟨rfl, hb2⟩
  replace hb1 := hb1.trans (hb2.mono (by have := hb1.size; rw [World.size_alloc] at this; exact this))
  go_wp2_with fail
  go_ret
  exact ⟨rfl, hb1⟩
end Go.Proofs.YtlnckjemfabckaaDoor

/-
  gleaningref38.Step: a step's words.
-/
namespace Go.Proofs.YtlnckjemfabckaaDoor
open Go.RowKit

theorem joinT_app1 {ws : List ByteArray} (h : ws ≠ []) (x : ByteArray) : joinT (ws ++ [x]) = joinT ws ++ sp1 ++ x := by
  cases ws with
  | nil => exact absurd rfl h
  | cons w ws => exact joinT_snoc w ws x
theorem joinT_fold (w : ByteArray) (ws : List ByteArray) : joinT (w :: ws) = ws.foldl (fun a x => a ++ sp1 ++ x) w := by
  have key : ∀ (ws pre : List ByteArray), pre ≠ [] → joinT (pre ++ ws) = ws.foldl (fun a x => a ++ sp1 ++ x) (joinT pre) := by
    intro ws
    induction ws with
    | nil => intro pre _; simp
    | cons y ws ih =>
      intro pre hp
      have h := ih (pre ++ [y]) (by simp)
      rw [List.append_assoc, List.singleton_append, joinT_app1 hp] at h
      rw [h]
      rfl
  have h := key ws [w] (by simp)
  rw [joinT_one] at h
  exact h
theorem eq_sp : (⟨#[32, 61, 32]⟩ : ByteArray) = sp1 ++ (eq1 ++ sp1) := rfl
def RStI (g N : Nat) (cells : Array Value) (W0 : List ByteArray) (ms : List MarkR) (w : World) (v3 v4 : Value) (wr : World) : Prop :=
  ∃ (j : Nat), v4 = .int .i64 j ∧ j ≤ N ∧ v3 = .string (joinT (W0 ++ (ms.take j).map MarkR.text)) ∧ Blk wr g 29 cells ∧ Below g w wr
set_option maxRecDepth 100000 in
set_option maxHeartbeats 4000000 in
theorem rstep_3 (th at_ : Int) (o n g' : Nat) (ms : List MarkR) (A0 : Option Addr) (N cm : Nat) (w : World) (ht : I64 th) (ha : I64 at_) (q1 : o < 18446744073709551616) (q2 : n < 18446744073709551616) (q3 : g' < 18446744073709551616)
    (hms : ∀ m ∈ ms, MarkOk m) (hN : ms.length = N) (hl : N ≤ 20) (hr : Reads w w.heap.size 3 A0 N (ms.flatMap MarkR.cells)) :
    Calls Tryd.prog 8 #[.agg #[.int .i64 th, .int .i64 3, .int .i64 at_, .int .u64 o, .int .u64 n, .int .u64 g', .slice A0 N cm]] w fun e w' => e = .returned (.string (stepT th 3 at_ o n g' ms)) ∧ Below w.heap.size w w' := by
  have B0 := (Below.refl w.heap.size w).alloc (Nat.le_refl _) (.cells #[.int .i64 th, .int .i64 3, .int .i64 at_, .int .u64 o, .int .u64 n, .int .u64 g', .slice A0 N cm] 29)
  have bx := Blk.new w 29 #[.int .i64 th, .int .i64 3, .int .i64 at_, .int .u64 o, .int .u64 n, .int .u64 g', .slice A0 N cm]
  have IT := hide (fun w2 => rint_any th w2 ht)
  have IA := hide (fun w2 => rint_any at_ w2 ha)
  have TO := hide (fun w2 => number_any o w2 q1)
  have TN := hide (fun w2 => number_any n w2 q2)
  have TG := hide (fun w2 => number_any g' w2 q3)
  have NM := hide (fun b w2 (hb : Blk w2 b 9 (strs accL).toArray) => rname_any b 3 accL 3 w2 ⟨by omega, by omega⟩ hb)
  rw [show (strs accL).toArray = #[.string ⟨#[108, 111, 97, 100]⟩, .string ⟨#[115, 116, 111, 114, 101]⟩, .string ⟨#[99, 97, 115]⟩] from rfl, show accL.length = 3 from rfl] at NM
  have MK := hide (fun (m : MarkR) (hm : m ∈ ms) w2 => rmark_any m.1 m.2.1 m.2.2 w2 (hms m hm).1 (hms m hm).2.1 (hms m hm).2.2)
  have s1 := intT_size th
  have s2 := nmd_size (n := 10) (by omega) accL_size 3
  have s3 := intT_size at_
  have s4 := numT_size o
  have s5 := numT_size n
  have s6 := numT_size g'
  have E := hide (show stepT th 3 at_ o n g' ms = joinT ([intT th, nmd accL 3, intT at_, numT o, numT n, eq1, numT g'] ++ ms.map MarkR.text) by simp [stepT, stepW])
  rw [show strOfNums (intL th) = intT th from rfl] at IT
  rw [show strOfNums (intL at_) = intT at_ from rfl] at IA
  generalize stepT th 3 at_ o n g' ms = R at *
  generalize nmd accL 3 = nm at *
  generalize intT th = ith at *
  generalize intT at_ = iat at *
  generalize numT o = to_ at *
  generalize numT n = tn at *
  generalize numT g' = tg at *
  have HR := hide hr
  have HN := hide hN
  have E0 := hide (show ith ++ ⟨#[32]⟩ ++ nm ++ ⟨#[32]⟩ ++ iat ++ ⟨#[32]⟩ ++ to_ ++ ⟨#[32]⟩ ++ tn ++ ⟨#[32, 61, 32]⟩ ++ tg = joinT [ith, nm, iat, to_, tn, eq1, tg] by
    rw [joinT_fold, eq_sp]
    simp only [List.foldl_cons, List.foldl_nil, ba_assoc]
    rfl)
  have HSB := hide (fun j => joinT_size_le ([ith, nm, iat, to_, tn, eq1, tg] ++ (ms.take j).map MarkR.text) 140 (fun x hx => by
    rw [List.mem_append] at hx
    rcases hx with hx | hx
    · simp only [List.mem_cons, List.not_mem_nil, or_false] at hx
      have h0 : eq1.size = 1 := rfl
      rcases hx with rfl | rfl | rfl | rfl | rfl | rfl | rfl <;> omega
    · obtain ⟨m, _, rfl⟩ := List.mem_map.1 hx
      exact markT_size _ _ _))
  replace HSB := hide (fun j => Nat.le_trans (HSB.out j) (show ([ith, nm, iat, to_, tn, eq1, tg] ++ (ms.take j).map MarkR.text).length * (140 + 1) ≤ 4000 by
    simp only [List.length_append, List.length_cons, List.length_nil, List.length_map, List.length_take]
    omega))
  clear ht ha q1 q2 q3 hr hN hms
  go_enter Tryd.func8, Tryd.ntmps8
  go_wp2_with fail
  generalize hgw : w.heap.size = g at *
  have HGW := hide hgw
  clear hgw
  generalize w.alloc (.cells #[.int .i64 th, .int .i64 3, .int .i64 at_, .int .u64 o, .int .u64 n, .int .u64 g', .slice A0 N cm] 29) = w0 at *
  refine wp_region_heldZ [] (fun w' => w'.cell? ⟨g, 0, none⟩ = some (.int .i64 th) ∧ w'.cell? ⟨g, 1, none⟩ = some (.int .i64 3) ∧ w'.cell? ⟨g, 2, none⟩ = some (.int .i64 at_)) (by kernel_rfl) (by exact ⟨bx.cell 0, bx.cell 1, bx.cell 2⟩) (fun hHeld => ?_)
  replace bx := bx.drew
  replace B0 := B0.drew
  generalize w0.drew = wd at *
  refine' wpAnyZ_takeA (i := 0) (v := ?_) (opAt rfl) (by kernel_rfl) (by kernel_rfl) (by kernel_rfl) (by kernel_rfl) (fun _ _ _ h => h) (by assumption) (by rfl) (fun w hSw => ?_) ?_
  rotate_left
  · (try dsimp only at hSw); go_simp; (try with_reducible rfl)
  try simp only [Act.put, List.setIfInBounds_toArray, List.set_cons_zero, List.set_cons_succ]
  refine' wpAnyZ_takeA (i := 1) (v := ?_) (opAt rfl) (by kernel_rfl) (by kernel_rfl) (by kernel_rfl) (by kernel_rfl) (fun _ _ _ h => h) (by assumption) (by rfl) (fun w hSw => ?_) ?_
  rotate_left
  · (try dsimp only at hSw); go_simp; (try with_reducible rfl)
  try simp only [Act.put, List.setIfInBounds_toArray, List.set_cons_zero, List.set_cons_succ]
  refine' wpAnyZ_takeA (i := 5) (v := ?_) (opAt rfl) (by kernel_rfl) (by kernel_rfl) (by kernel_rfl) (by kernel_rfl) (fun _ _ _ h => h) (by assumption) (by rfl) (fun w hSw => ?_) ?_
  rotate_left
  · (try dsimp only at hSw); go_simp; (try with_reducible rfl)
  try simp only [Act.put, List.setIfInBounds_toArray, List.set_cons_zero, List.set_cons_succ]
  refine' wpAnyZ_takeA (i := 6) (v := ?_) (opAt rfl) (by kernel_rfl) (by kernel_rfl) (by kernel_rfl) (by kernel_rfl) (fun _ _ _ h => h) (by assumption) (by rfl) (fun w hSw => ?_) ?_
  rotate_left
  · (try dsimp only at hSw); go_simp; (try with_reducible rfl)
  try simp only [Act.put, List.setIfInBounds_toArray, List.set_cons_zero, List.set_cons_succ]
  refine' wpAnyZ_takeA (i := 7) (v := ?_) (opAt rfl) (by kernel_rfl) (by kernel_rfl) (by kernel_rfl) (by kernel_rfl) (fun _ _ _ h => h) (by assumption) (by rfl) (fun w hSw => ?_) ?_
  rotate_left
  · (try dsimp only at hSw); go_simp; (try with_reducible rfl)
  try simp only [Act.put, List.setIfInBounds_toArray, List.set_cons_zero, List.set_cons_succ]
  refine' wpAnyZ_takeA (i := 11) (v := ?_) (opAt rfl) (by kernel_rfl) (by kernel_rfl) (by kernel_rfl) (by kernel_rfl) (fun _ _ _ h => h) (by assumption) (by rfl) (fun w hSw => ?_) ?_
  rotate_left
  · (try dsimp only at hSw); go_simp; (try with_reducible rfl)
  try simp only [Act.put, List.setIfInBounds_toArray, List.set_cons_zero, List.set_cons_succ]
  refine' wpAnyZ_takeA (i := 12) (v := ?_) (opAt rfl) (by kernel_rfl) (by kernel_rfl) (by kernel_rfl) (by kernel_rfl) (fun _ _ _ h => h) (by assumption) (by rfl) (fun w hSw => ?_) ?_
  rotate_left
  · (try dsimp only at hSw); go_simp; (try with_reducible rfl)
  try simp only [Act.put, List.setIfInBounds_toArray, List.set_cons_zero, List.set_cons_succ]
  refine' wpAnyZ_takeA (i := 13) (v := ?_) (opAt rfl) (by kernel_rfl) (by kernel_rfl) (by kernel_rfl) (by kernel_rfl) (fun _ _ _ h => h) (by assumption) (by rfl) (fun w hSw => ?_) ?_
  rotate_left
  · (try dsimp only at hSw); go_simp; (try with_reducible rfl)
  try simp only [Act.put, List.setIfInBounds_toArray, List.set_cons_zero, List.set_cons_succ]
  refine wpAnyZ_ready (rs := [2, 4]) (by kernel_rfl) (by simp) ?_
  refine AllReadyZ.cons (opAt rfl) (fun K hK => ?_) ?_
  · skip
    go_simp
    refine (IT.out _).mono ?_
    rintro e w1 ⟨rfl, hb1⟩
    replace B0 := B0.trans (hb1.mono (Nat.le_of_lt bx.lt))
    replace bx := bx.below hb1 bx.lt
    clear hb1
    try go_wp2_with fail
    refine hK.out _ _ (by exact ⟨bx.cell 0, bx.cell 1, bx.cell 2⟩) (fun hHeld => ?_)
    clear hK K
    try simp only [Act.put, List.setIfInBounds_toArray, List.set_cons_zero, List.set_cons_succ]
    refine' wpAnyZ_takeA (i := 3) (v := ?_) (opAt rfl) (by kernel_rfl) (by kernel_rfl) (by kernel_rfl) (by kernel_rfl) (fun _ _ _ h => h) (by assumption) (by rfl) (fun w hSw => ?_) ?_
    rotate_left
    · (try dsimp only at hSw); go_simp; (try rw [if_neg (by omega)]); (try with_reducible rfl)
    try simp only [Act.put, List.setIfInBounds_toArray, List.set_cons_zero, List.set_cons_succ]
    refine wpAnyZ_ready (rs := [4]) (by kernel_rfl) (by simp) ?_
    refine AllReadyZ.cons (opAt rfl) (fun K hK => ?_) ?_
    · skip
      go_simp
      have hsz : g + 1 ≤ w1.heap.size := bx.lt
      have bl := Blk.new w1 9 #[.string ⟨#[108, 111, 97, 100]⟩, .string ⟨#[115, 116, 111, 114, 101]⟩, .string ⟨#[99, 97, 115]⟩]
      replace bx := bx.alloc (.cells #[.string ⟨#[108, 111, 97, 100]⟩, .string ⟨#[115, 116, 111, 114, 101]⟩, .string ⟨#[99, 97, 115]⟩] 9)
      replace B0 := B0.alloc (by omega) (.cells #[.string ⟨#[108, 111, 97, 100]⟩, .string ⟨#[115, 116, 111, 114, 101]⟩, .string ⟨#[99, 97, 115]⟩] 9)
      clear hsz
      generalize w1.alloc (.cells #[.string ⟨#[108, 111, 97, 100]⟩, .string ⟨#[115, 116, 111, 114, 101]⟩, .string ⟨#[99, 97, 115]⟩] 9) = w2 at *
      refine hK.out _ _ (by exact ⟨bx.cell 0, bx.cell 1, bx.cell 2⟩) (fun hHeld => ?_)
      clear hK K
      try simp only [Act.put, List.setIfInBounds_toArray, List.set_cons_zero, List.set_cons_succ]
      refine wpAnyZ_ready (rs := [8]) (by kernel_rfl) (by simp) ?_
      refine AllReadyZ.cons (opAt rfl) (fun K hK => ?_) ?_
      · skip
        go_simp
        refine (NM.out _ _ bl).mono ?_
        rintro e w3 ⟨rfl, rfl⟩
        try go_wp2_with fail
        refine hK.out _ _ (by exact ⟨bx.cell 0, bx.cell 1, bx.cell 2⟩) (fun hHeld => ?_)
        clear hK K
        try simp only [Act.put, List.setIfInBounds_toArray, List.set_cons_zero, List.set_cons_succ]
        refine' wpAnyZ_takeA (i := 9) (v := ?_) (opAt rfl) (by kernel_rfl) (by kernel_rfl) (by kernel_rfl) (by kernel_rfl) (fun _ _ _ h => h) (by assumption) (by rfl) (fun w hSw => ?_) ?_
        rotate_left
        · (try dsimp only at hSw); go_simp; (try rw [if_neg (by omega)]); (try with_reducible rfl)
        try simp only [Act.put, List.setIfInBounds_toArray, List.set_cons_zero, List.set_cons_succ]
        refine' wpAnyZ_takeA (i := 10) (v := ?_) (opAt rfl) (by kernel_rfl) (by kernel_rfl) (by kernel_rfl) (by kernel_rfl) (fun _ _ _ h => h) (by assumption) (by rfl) (fun w hSw => ?_) ?_
        rotate_left
        · (try dsimp only at hSw); go_simp; (try rw [if_neg (by omega)]); (try with_reducible rfl)
        try simp only [Act.put, List.setIfInBounds_toArray, List.set_cons_zero, List.set_cons_succ]
        refine wpAnyZ_ready (rs := [14]) (by kernel_rfl) (by simp) ?_
        refine AllReadyZ.cons (opAt rfl) (fun K hK => ?_) ?_
        · skip
          go_simp
          refine (IA.out _).mono ?_
          rintro e w4 ⟨rfl, hb1⟩
          replace B0 := B0.trans (hb1.mono (Nat.le_of_lt bx.lt))
          replace bx := bx.below hb1 bx.lt
          clear hb1
          try go_wp2_with fail
          refine hK.out _ _ (by exact ⟨bx.cell 0, bx.cell 1, bx.cell 2⟩) (fun hHeld => ?_)
          clear hK K
          try simp only [Act.put, List.setIfInBounds_toArray, List.set_cons_zero, List.set_cons_succ]
          refine' wpAnyZ_takeA (i := 15) (v := ?_) (opAt rfl) (by kernel_rfl) (by kernel_rfl) (by kernel_rfl) (by kernel_rfl) (fun _ _ _ h => h) (by assumption) (by rfl) (fun w hSw => ?_) ?_
          rotate_left
          · (try dsimp only at hSw); go_simp; (try rw [if_neg (by omega)]); (try with_reducible rfl)
          try simp only [Act.put, List.setIfInBounds_toArray, List.set_cons_zero, List.set_cons_succ]
          refine' wpAnyZ_takeA (i := 16) (v := ?_) (opAt rfl) (by kernel_rfl) (by kernel_rfl) (by kernel_rfl) (by kernel_rfl) (fun _ _ _ h => h) (by assumption) (by rfl) (fun w hSw => ?_) ?_
          rotate_left
          · (try dsimp only at hSw); go_simp; (try with_reducible rfl)
          try simp only [Act.put, List.setIfInBounds_toArray, List.set_cons_zero, List.set_cons_succ]
          refine wpAnyZ_done (by kernel_rfl) ?_ _
          have mc := fun j => bx.cell j
          have hlt0 := bx.lt
          clear bl
          go_wp2_with fail
          refine (TO.out _).mono ?_
          rintro e w5 ⟨rfl, hb1⟩
          replace B0 := B0.trans (hb1.mono (Nat.le_of_lt bx.lt))
          replace bx := bx.below hb1 bx.lt
          clear hb1
          clear mc hlt0
          have mc := fun j => bx.cell j
          have hlt0 := bx.lt
          go_wp2_with fail
          refine (TN.out _).mono ?_
          rintro e w6 ⟨rfl, hb1⟩
          replace B0 := B0.trans (hb1.mono (Nat.le_of_lt bx.lt))
          replace bx := bx.below hb1 bx.lt
          clear hb1
          clear mc hlt0
          have mc := fun j => bx.cell j
          have hlt0 := bx.lt
          go_wp2_with fail
          refine (TG.out _).mono ?_
          rintro e w7 ⟨rfl, hb1⟩
          replace B0 := B0.trans (hb1.mono (Nat.le_of_lt bx.lt))
          replace bx := bx.below hb1 bx.lt
          clear hb1
          clear mc hlt0
          have mc := fun j => bx.cell j
          have hlt0 := bx.lt
          go_wp2_with fail
          clear mc hlt0
          go_loopw [3, 4] (RStI g N #[.int .i64 th, .int .i64 3, .int .i64 at_, .int .u64 o, .int .u64 n, .int .u64 g', .slice A0 N cm] [ith, nm, iat, to_, tn, eq1, tg] ms w) (fun _ v _ => N - (intOf v).toNat)
          case atStart => exact ⟨0, rfl, by omega, congrArg Value.string E0.out, bx, B0⟩
          case round =>
            have HNE := hide (show ([ith, nm, iat, to_, tn, eq1, tg] : List ByteArray) ≠ [] by simp)
            generalize [ith, nm, iat, to_, tn, eq1, tg] = W0 at *
            clear bx B0
            obtain ⟨j, rfl, hj, rfl, bx, B0⟩ := hrel
            have mc := fun j => bx.cell j
            have hlt0 := bx.lt
            by_cases hlt : j < N
            · have HRB := (HR.out.below B0)
              obtain ⟨ad, m, hA, hab, hmj, z0, zz⟩ := HRB.recAt MarkR.cells_len (by omega) hlt
              have z1 := zz 1 (by omega) (by omega)
              have z2 := zz 2 (by omega) (by omega)
              clear zz HRB
              subst hA
              have HMM := hide (show joinT (W0 ++ (ms.take (j + 1)).map MarkR.text) = joinT (W0 ++ (ms.take j).map MarkR.text) ++ sp1 ++ MarkR.text m by rw [marks_succ hmj, ← List.append_assoc, joinT_app1 (by simp [HNE.out])])
              have MKJ := hide (fun w2 => MK.out m (List.mem_of_getElem? hmj) w2)
              have s8 : (MarkR.text m).size ≤ 140 := markT_size _ _ _
              obtain ⟨mk, ma, mb⟩ := m
              replace z0 : wr.cell? (ad.add (j * 3)) = some (.int .i64 mk) := z0
              replace z1 : wr.cell? ⟨(ad.add (j * 3)).block, (ad.add (j * 3)).off + 1, none⟩ = some (.int .u64 ma) := z1
              replace z2 : wr.cell? ⟨(ad.add (j * 3)).block, (ad.add (j * 3)).off + 2, none⟩ = some (.int .u64 mb) := z2
              have MKJ2 := hide (show ∀ w2, Calls Tryd.prog 6 #[.agg #[.int .i64 mk, .int .u64 ma, .int .u64 mb]] w2 fun e w' => e = .returned (.string (MarkR.text (mk, ma, mb))) ∧ Below w2.heap.size w2 w' from MKJ.out)
              have s7 := HSB.out j
              clear MKJ hmj hab
              generalize MarkR.text (mk, ma, mb) = tm at *
              generalize joinT (W0 ++ (ms.take j).map MarkR.text) = acc at *
              have hltz : (j : Int) < (N : Int) := by omega
              have hj20 : j ≤ 20 := by omega
              go_wp2_with fail
              refine (MKJ2.out _).mono ?_
              rintro e w7 ⟨rfl, hb1⟩
              replace B0 := B0.trans (hb1.mono (Nat.le_of_lt bx.lt))
              replace bx := bx.below hb1 bx.lt
              clear hb1
              clear hlt0 mc z0 z1 z2
              have mc := fun j => bx.cell j
              have hlt0 := bx.lt
              go_wp2_with fail
              go_roundw
              case rel => exact ⟨j + 1, by go_num, by omega, by rw [HMM.out]; rfl, bx, B0⟩
              case measure => simp [intOf]; omega
            · obtain rfl : j = N := by omega
              have hmap : (ms.take j).map MarkR.text = ms.map MarkR.text := by rw [List.take_of_length_le (by rw [HN.out]; exact Nat.le_refl _)]
              rw [hmap]
              have HE := hide E.out
              generalize joinT (W0 ++ ms.map MarkR.text) = Q at *
              go_wp2_with fail
              go_ret
              exact ⟨by rw [HE.out]; rfl, by rw [HGW.out]; exact B0⟩
        exact AllReadyZ.nil
      exact AllReadyZ.nil
    exact AllReadyZ.nil
  refine AllReadyZ.cons (opAt rfl) (fun K hK => ?_) ?_
  · skip
    go_simp
    have hsz : g + 1 ≤ wd.heap.size := bx.lt
    have bl := Blk.new wd 9 #[.string ⟨#[108, 111, 97, 100]⟩, .string ⟨#[115, 116, 111, 114, 101]⟩, .string ⟨#[99, 97, 115]⟩]
    replace bx := bx.alloc (.cells #[.string ⟨#[108, 111, 97, 100]⟩, .string ⟨#[115, 116, 111, 114, 101]⟩, .string ⟨#[99, 97, 115]⟩] 9)
    replace B0 := B0.alloc (by omega) (.cells #[.string ⟨#[108, 111, 97, 100]⟩, .string ⟨#[115, 116, 111, 114, 101]⟩, .string ⟨#[99, 97, 115]⟩] 9)
    clear hsz
    generalize wd.alloc (.cells #[.string ⟨#[108, 111, 97, 100]⟩, .string ⟨#[115, 116, 111, 114, 101]⟩, .string ⟨#[99, 97, 115]⟩] 9) = w1 at *
    refine hK.out _ _ (by exact ⟨bx.cell 0, bx.cell 1, bx.cell 2⟩) (fun hHeld => ?_)
    clear hK K
    try simp only [Act.put, List.setIfInBounds_toArray, List.set_cons_zero, List.set_cons_succ]
    refine wpAnyZ_ready (rs := [2]) (by kernel_rfl) (by simp) ?_
    refine AllReadyZ.cons (opAt rfl) (fun K hK => ?_) ?_
    · skip
      go_simp
      refine (IT.out _).mono ?_
      rintro e w2 ⟨rfl, hb1⟩
      replace B0 := B0.trans (hb1.mono (Nat.le_of_lt bx.lt))
      replace bx := bx.below hb1 bx.lt
      replace bl := bl.below hb1 bl.lt
      clear hb1
      try go_wp2_with fail
      refine hK.out _ _ (by exact ⟨bx.cell 0, bx.cell 1, bx.cell 2⟩) (fun hHeld => ?_)
      clear hK K
      try simp only [Act.put, List.setIfInBounds_toArray, List.set_cons_zero, List.set_cons_succ]
      refine' wpAnyZ_takeA (i := 3) (v := ?_) (opAt rfl) (by kernel_rfl) (by kernel_rfl) (by kernel_rfl) (by kernel_rfl) (fun _ _ _ h => h) (by assumption) (by rfl) (fun w hSw => ?_) ?_
      rotate_left
      · (try dsimp only at hSw); go_simp; (try rw [if_neg (by omega)]); (try with_reducible rfl)
      try simp only [Act.put, List.setIfInBounds_toArray, List.set_cons_zero, List.set_cons_succ]
      refine wpAnyZ_ready (rs := [8]) (by kernel_rfl) (by simp) ?_
      refine AllReadyZ.cons (opAt rfl) (fun K hK => ?_) ?_
      · skip
        go_simp
        refine (NM.out _ _ bl).mono ?_
        rintro e w3 ⟨rfl, rfl⟩
        try go_wp2_with fail
        refine hK.out _ _ (by exact ⟨bx.cell 0, bx.cell 1, bx.cell 2⟩) (fun hHeld => ?_)
        clear hK K
        try simp only [Act.put, List.setIfInBounds_toArray, List.set_cons_zero, List.set_cons_succ]
        refine' wpAnyZ_takeA (i := 9) (v := ?_) (opAt rfl) (by kernel_rfl) (by kernel_rfl) (by kernel_rfl) (by kernel_rfl) (fun _ _ _ h => h) (by assumption) (by rfl) (fun w hSw => ?_) ?_
        rotate_left
        · (try dsimp only at hSw); go_simp; (try rw [if_neg (by omega)]); (try with_reducible rfl)
        try simp only [Act.put, List.setIfInBounds_toArray, List.set_cons_zero, List.set_cons_succ]
        refine' wpAnyZ_takeA (i := 10) (v := ?_) (opAt rfl) (by kernel_rfl) (by kernel_rfl) (by kernel_rfl) (by kernel_rfl) (fun _ _ _ h => h) (by assumption) (by rfl) (fun w hSw => ?_) ?_
        rotate_left
        · (try dsimp only at hSw); go_simp; (try rw [if_neg (by omega)]); (try with_reducible rfl)
        try simp only [Act.put, List.setIfInBounds_toArray, List.set_cons_zero, List.set_cons_succ]
        refine wpAnyZ_ready (rs := [14]) (by kernel_rfl) (by simp) ?_
        refine AllReadyZ.cons (opAt rfl) (fun K hK => ?_) ?_
        · skip
          go_simp
          refine (IA.out _).mono ?_
          rintro e w4 ⟨rfl, hb1⟩
          replace B0 := B0.trans (hb1.mono (Nat.le_of_lt bx.lt))
          replace bx := bx.below hb1 bx.lt
          clear hb1
          try go_wp2_with fail
          refine hK.out _ _ (by exact ⟨bx.cell 0, bx.cell 1, bx.cell 2⟩) (fun hHeld => ?_)
          clear hK K
          try simp only [Act.put, List.setIfInBounds_toArray, List.set_cons_zero, List.set_cons_succ]
          refine' wpAnyZ_takeA (i := 15) (v := ?_) (opAt rfl) (by kernel_rfl) (by kernel_rfl) (by kernel_rfl) (by kernel_rfl) (fun _ _ _ h => h) (by assumption) (by rfl) (fun w hSw => ?_) ?_
          rotate_left
          · (try dsimp only at hSw); go_simp; (try rw [if_neg (by omega)]); (try with_reducible rfl)
          try simp only [Act.put, List.setIfInBounds_toArray, List.set_cons_zero, List.set_cons_succ]
          refine' wpAnyZ_takeA (i := 16) (v := ?_) (opAt rfl) (by kernel_rfl) (by kernel_rfl) (by kernel_rfl) (by kernel_rfl) (fun _ _ _ h => h) (by assumption) (by rfl) (fun w hSw => ?_) ?_
          rotate_left
          · (try dsimp only at hSw); go_simp; (try with_reducible rfl)
          try simp only [Act.put, List.setIfInBounds_toArray, List.set_cons_zero, List.set_cons_succ]
          refine wpAnyZ_done (by kernel_rfl) ?_ _
          have mc := fun j => bx.cell j
          have hlt0 := bx.lt
          clear bl
          go_wp2_with fail
          refine (TO.out _).mono ?_
          rintro e w5 ⟨rfl, hb1⟩
          replace B0 := B0.trans (hb1.mono (Nat.le_of_lt bx.lt))
          replace bx := bx.below hb1 bx.lt
          clear hb1
          clear mc hlt0
          have mc := fun j => bx.cell j
          have hlt0 := bx.lt
          go_wp2_with fail
          refine (TN.out _).mono ?_
          rintro e w6 ⟨rfl, hb1⟩
          replace B0 := B0.trans (hb1.mono (Nat.le_of_lt bx.lt))
          replace bx := bx.below hb1 bx.lt
          clear hb1
          clear mc hlt0
          have mc := fun j => bx.cell j
          have hlt0 := bx.lt
          go_wp2_with fail
          refine (TG.out _).mono ?_
          rintro e w7 ⟨rfl, hb1⟩
          replace B0 := B0.trans (hb1.mono (Nat.le_of_lt bx.lt))
          replace bx := bx.below hb1 bx.lt
          clear hb1
          clear mc hlt0
          have mc := fun j => bx.cell j
          have hlt0 := bx.lt
          go_wp2_with fail
          clear mc hlt0
          go_loopw [3, 4] (RStI g N #[.int .i64 th, .int .i64 3, .int .i64 at_, .int .u64 o, .int .u64 n, .int .u64 g', .slice A0 N cm] [ith, nm, iat, to_, tn, eq1, tg] ms w) (fun _ v _ => N - (intOf v).toNat)
          case atStart => exact ⟨0, rfl, by omega, congrArg Value.string E0.out, bx, B0⟩
          case round =>
            have HNE := hide (show ([ith, nm, iat, to_, tn, eq1, tg] : List ByteArray) ≠ [] by simp)
            generalize [ith, nm, iat, to_, tn, eq1, tg] = W0 at *
            clear bx B0
            obtain ⟨j, rfl, hj, rfl, bx, B0⟩ := hrel
            have mc := fun j => bx.cell j
            have hlt0 := bx.lt
            by_cases hlt : j < N
            · have HRB := (HR.out.below B0)
              obtain ⟨ad, m, hA, hab, hmj, z0, zz⟩ := HRB.recAt MarkR.cells_len (by omega) hlt
              have z1 := zz 1 (by omega) (by omega)
              have z2 := zz 2 (by omega) (by omega)
              clear zz HRB
              subst hA
              have HMM := hide (show joinT (W0 ++ (ms.take (j + 1)).map MarkR.text) = joinT (W0 ++ (ms.take j).map MarkR.text) ++ sp1 ++ MarkR.text m by rw [marks_succ hmj, ← List.append_assoc, joinT_app1 (by simp [HNE.out])])
              have MKJ := hide (fun w2 => MK.out m (List.mem_of_getElem? hmj) w2)
              have s8 : (MarkR.text m).size ≤ 140 := markT_size _ _ _
              obtain ⟨mk, ma, mb⟩ := m
              replace z0 : wr.cell? (ad.add (j * 3)) = some (.int .i64 mk) := z0
              replace z1 : wr.cell? ⟨(ad.add (j * 3)).block, (ad.add (j * 3)).off + 1, none⟩ = some (.int .u64 ma) := z1
              replace z2 : wr.cell? ⟨(ad.add (j * 3)).block, (ad.add (j * 3)).off + 2, none⟩ = some (.int .u64 mb) := z2
              have MKJ2 := hide (show ∀ w2, Calls Tryd.prog 6 #[.agg #[.int .i64 mk, .int .u64 ma, .int .u64 mb]] w2 fun e w' => e = .returned (.string (MarkR.text (mk, ma, mb))) ∧ Below w2.heap.size w2 w' from MKJ.out)
              have s7 := HSB.out j
              clear MKJ hmj hab
              generalize MarkR.text (mk, ma, mb) = tm at *
              generalize joinT (W0 ++ (ms.take j).map MarkR.text) = acc at *
              have hltz : (j : Int) < (N : Int) := by omega
              have hj20 : j ≤ 20 := by omega
              go_wp2_with fail
              refine (MKJ2.out _).mono ?_
              rintro e w7 ⟨rfl, hb1⟩
              replace B0 := B0.trans (hb1.mono (Nat.le_of_lt bx.lt))
              replace bx := bx.below hb1 bx.lt
              clear hb1
              clear hlt0 mc z0 z1 z2
              have mc := fun j => bx.cell j
              have hlt0 := bx.lt
              go_wp2_with fail
              go_roundw
              case rel => exact ⟨j + 1, by go_num, by omega, by rw [HMM.out]; rfl, bx, B0⟩
              case measure => simp [intOf]; omega
            · obtain rfl : j = N := by omega
              have hmap : (ms.take j).map MarkR.text = ms.map MarkR.text := by rw [List.take_of_length_le (by rw [HN.out]; exact Nat.le_refl _)]
              rw [hmap]
              have HE := hide E.out
              generalize joinT (W0 ++ ms.map MarkR.text) = Q at *
              go_wp2_with fail
              go_ret
              exact ⟨by rw [HE.out]; rfl, by rw [HGW.out]; exact B0⟩
        exact AllReadyZ.nil
      exact AllReadyZ.nil
    exact AllReadyZ.nil
  exact AllReadyZ.nil
set_option maxRecDepth 100000 in
set_option maxHeartbeats 4000000 in
theorem rstep_2 (th at_ : Int) (o n g' : Nat) (ms : List MarkR) (A0 : Option Addr) (N cm : Nat) (w : World) (ht : I64 th) (ha : I64 at_) (q1 : o < 18446744073709551616) (q2 : n < 18446744073709551616) (q3 : g' < 18446744073709551616)
    (hms : ∀ m ∈ ms, MarkOk m) (hN : ms.length = N) (hl : N ≤ 20) (hr : Reads w w.heap.size 3 A0 N (ms.flatMap MarkR.cells)) :
    Calls Tryd.prog 8 #[.agg #[.int .i64 th, .int .i64 2, .int .i64 at_, .int .u64 o, .int .u64 n, .int .u64 g', .slice A0 N cm]] w fun e w' => e = .returned (.string (stepT th 2 at_ o n g' ms)) ∧ Below w.heap.size w w' := by
  have B0 := (Below.refl w.heap.size w).alloc (Nat.le_refl _) (.cells #[.int .i64 th, .int .i64 2, .int .i64 at_, .int .u64 o, .int .u64 n, .int .u64 g', .slice A0 N cm] 29)
  have bx := Blk.new w 29 #[.int .i64 th, .int .i64 2, .int .i64 at_, .int .u64 o, .int .u64 n, .int .u64 g', .slice A0 N cm]
  have IT := hide (fun w2 => rint_any th w2 ht)
  have IA := hide (fun w2 => rint_any at_ w2 ha)
  have TO := hide (fun w2 => number_any o w2 q1)
  have TN := hide (fun w2 => number_any n w2 q2)
  have TG := hide (fun w2 => number_any g' w2 q3)
  have NM := hide (fun b w2 (hb : Blk w2 b 9 (strs accL).toArray) => rname_any b 3 accL 2 w2 ⟨by omega, by omega⟩ hb)
  rw [show (strs accL).toArray = #[.string ⟨#[108, 111, 97, 100]⟩, .string ⟨#[115, 116, 111, 114, 101]⟩, .string ⟨#[99, 97, 115]⟩] from rfl, show accL.length = 3 from rfl] at NM
  have MK := hide (fun (m : MarkR) (hm : m ∈ ms) w2 => rmark_any m.1 m.2.1 m.2.2 w2 (hms m hm).1 (hms m hm).2.1 (hms m hm).2.2)
  have s1 := intT_size th
  have s2 := nmd_size (n := 10) (by omega) accL_size 2
  have s3 := intT_size at_
  have s4 := numT_size o
  have s5 := numT_size n
  have s6 := numT_size g'
  have E := hide (show stepT th 2 at_ o n g' ms = joinT ([intT th, nmd accL 2, intT at_, numT n, eq1, numT g'] ++ ms.map MarkR.text) by simp [stepT, stepW])
  rw [show strOfNums (intL th) = intT th from rfl] at IT
  rw [show strOfNums (intL at_) = intT at_ from rfl] at IA
  generalize stepT th 2 at_ o n g' ms = R at *
  generalize nmd accL 2 = nm at *
  generalize intT th = ith at *
  generalize intT at_ = iat at *
  generalize numT o = to_ at *
  generalize numT n = tn at *
  generalize numT g' = tg at *
  have HR := hide hr
  have HN := hide hN
  have E0 := hide (show ith ++ ⟨#[32]⟩ ++ nm ++ ⟨#[32]⟩ ++ iat ++ ⟨#[32]⟩ ++ tn ++ ⟨#[32, 61, 32]⟩ ++ tg = joinT [ith, nm, iat, tn, eq1, tg] by
    rw [joinT_fold, eq_sp]
    simp only [List.foldl_cons, List.foldl_nil, ba_assoc]
    rfl)
  have HSB := hide (fun j => joinT_size_le ([ith, nm, iat, tn, eq1, tg] ++ (ms.take j).map MarkR.text) 140 (fun x hx => by
    rw [List.mem_append] at hx
    rcases hx with hx | hx
    · simp only [List.mem_cons, List.not_mem_nil, or_false] at hx
      have h0 : eq1.size = 1 := rfl
      rcases hx with rfl | rfl | rfl | rfl | rfl | rfl <;> omega
    · obtain ⟨m, _, rfl⟩ := List.mem_map.1 hx
      exact markT_size _ _ _))
  replace HSB := hide (fun j => Nat.le_trans (HSB.out j) (show ([ith, nm, iat, tn, eq1, tg] ++ (ms.take j).map MarkR.text).length * (140 + 1) ≤ 4000 by
    simp only [List.length_append, List.length_cons, List.length_nil, List.length_map, List.length_take]
    omega))
  clear ht ha q1 q2 q3 hr hN hms
  go_enter Tryd.func8, Tryd.ntmps8
  go_wp2_with fail
  generalize hgw : w.heap.size = g at *
  have HGW := hide hgw
  clear hgw
  generalize w.alloc (.cells #[.int .i64 th, .int .i64 2, .int .i64 at_, .int .u64 o, .int .u64 n, .int .u64 g', .slice A0 N cm] 29) = w0 at *
  refine wp_region_heldZ [] (fun w' => w'.cell? ⟨g, 0, none⟩ = some (.int .i64 th) ∧ w'.cell? ⟨g, 1, none⟩ = some (.int .i64 2) ∧ w'.cell? ⟨g, 2, none⟩ = some (.int .i64 at_)) (by kernel_rfl) (by exact ⟨bx.cell 0, bx.cell 1, bx.cell 2⟩) (fun hHeld => ?_)
  replace bx := bx.drew
  replace B0 := B0.drew
  generalize w0.drew = wd at *
  refine' wpAnyZ_takeA (i := 0) (v := ?_) (opAt rfl) (by kernel_rfl) (by kernel_rfl) (by kernel_rfl) (by kernel_rfl) (fun _ _ _ h => h) (by assumption) (by rfl) (fun w hSw => ?_) ?_
  rotate_left
  · (try dsimp only at hSw); go_simp; (try with_reducible rfl)
  try simp only [Act.put, List.setIfInBounds_toArray, List.set_cons_zero, List.set_cons_succ]
  refine' wpAnyZ_takeA (i := 1) (v := ?_) (opAt rfl) (by kernel_rfl) (by kernel_rfl) (by kernel_rfl) (by kernel_rfl) (fun _ _ _ h => h) (by assumption) (by rfl) (fun w hSw => ?_) ?_
  rotate_left
  · (try dsimp only at hSw); go_simp; (try with_reducible rfl)
  try simp only [Act.put, List.setIfInBounds_toArray, List.set_cons_zero, List.set_cons_succ]
  refine' wpAnyZ_takeA (i := 5) (v := ?_) (opAt rfl) (by kernel_rfl) (by kernel_rfl) (by kernel_rfl) (by kernel_rfl) (fun _ _ _ h => h) (by assumption) (by rfl) (fun w hSw => ?_) ?_
  rotate_left
  · (try dsimp only at hSw); go_simp; (try with_reducible rfl)
  try simp only [Act.put, List.setIfInBounds_toArray, List.set_cons_zero, List.set_cons_succ]
  refine' wpAnyZ_takeA (i := 6) (v := ?_) (opAt rfl) (by kernel_rfl) (by kernel_rfl) (by kernel_rfl) (by kernel_rfl) (fun _ _ _ h => h) (by assumption) (by rfl) (fun w hSw => ?_) ?_
  rotate_left
  · (try dsimp only at hSw); go_simp; (try with_reducible rfl)
  try simp only [Act.put, List.setIfInBounds_toArray, List.set_cons_zero, List.set_cons_succ]
  refine' wpAnyZ_takeA (i := 7) (v := ?_) (opAt rfl) (by kernel_rfl) (by kernel_rfl) (by kernel_rfl) (by kernel_rfl) (fun _ _ _ h => h) (by assumption) (by rfl) (fun w hSw => ?_) ?_
  rotate_left
  · (try dsimp only at hSw); go_simp; (try with_reducible rfl)
  try simp only [Act.put, List.setIfInBounds_toArray, List.set_cons_zero, List.set_cons_succ]
  refine' wpAnyZ_takeA (i := 11) (v := ?_) (opAt rfl) (by kernel_rfl) (by kernel_rfl) (by kernel_rfl) (by kernel_rfl) (fun _ _ _ h => h) (by assumption) (by rfl) (fun w hSw => ?_) ?_
  rotate_left
  · (try dsimp only at hSw); go_simp; (try with_reducible rfl)
  try simp only [Act.put, List.setIfInBounds_toArray, List.set_cons_zero, List.set_cons_succ]
  refine' wpAnyZ_takeA (i := 12) (v := ?_) (opAt rfl) (by kernel_rfl) (by kernel_rfl) (by kernel_rfl) (by kernel_rfl) (fun _ _ _ h => h) (by assumption) (by rfl) (fun w hSw => ?_) ?_
  rotate_left
  · (try dsimp only at hSw); go_simp; (try with_reducible rfl)
  try simp only [Act.put, List.setIfInBounds_toArray, List.set_cons_zero, List.set_cons_succ]
  refine' wpAnyZ_takeA (i := 13) (v := ?_) (opAt rfl) (by kernel_rfl) (by kernel_rfl) (by kernel_rfl) (by kernel_rfl) (fun _ _ _ h => h) (by assumption) (by rfl) (fun w hSw => ?_) ?_
  rotate_left
  · (try dsimp only at hSw); go_simp; (try with_reducible rfl)
  try simp only [Act.put, List.setIfInBounds_toArray, List.set_cons_zero, List.set_cons_succ]
  refine wpAnyZ_ready (rs := [2, 4]) (by kernel_rfl) (by simp) ?_
  refine AllReadyZ.cons (opAt rfl) (fun K hK => ?_) ?_
  · skip
    go_simp
    refine (IT.out _).mono ?_
    rintro e w1 ⟨rfl, hb1⟩
    replace B0 := B0.trans (hb1.mono (Nat.le_of_lt bx.lt))
    replace bx := bx.below hb1 bx.lt
    clear hb1
    try go_wp2_with fail
    refine hK.out _ _ (by exact ⟨bx.cell 0, bx.cell 1, bx.cell 2⟩) (fun hHeld => ?_)
    clear hK K
    try simp only [Act.put, List.setIfInBounds_toArray, List.set_cons_zero, List.set_cons_succ]
    refine' wpAnyZ_takeA (i := 3) (v := ?_) (opAt rfl) (by kernel_rfl) (by kernel_rfl) (by kernel_rfl) (by kernel_rfl) (fun _ _ _ h => h) (by assumption) (by rfl) (fun w hSw => ?_) ?_
    rotate_left
    · (try dsimp only at hSw); go_simp; (try rw [if_neg (by omega)]); (try with_reducible rfl)
    try simp only [Act.put, List.setIfInBounds_toArray, List.set_cons_zero, List.set_cons_succ]
    refine wpAnyZ_ready (rs := [4]) (by kernel_rfl) (by simp) ?_
    refine AllReadyZ.cons (opAt rfl) (fun K hK => ?_) ?_
    · skip
      go_simp
      have hsz : g + 1 ≤ w1.heap.size := bx.lt
      have bl := Blk.new w1 9 #[.string ⟨#[108, 111, 97, 100]⟩, .string ⟨#[115, 116, 111, 114, 101]⟩, .string ⟨#[99, 97, 115]⟩]
      replace bx := bx.alloc (.cells #[.string ⟨#[108, 111, 97, 100]⟩, .string ⟨#[115, 116, 111, 114, 101]⟩, .string ⟨#[99, 97, 115]⟩] 9)
      replace B0 := B0.alloc (by omega) (.cells #[.string ⟨#[108, 111, 97, 100]⟩, .string ⟨#[115, 116, 111, 114, 101]⟩, .string ⟨#[99, 97, 115]⟩] 9)
      clear hsz
      generalize w1.alloc (.cells #[.string ⟨#[108, 111, 97, 100]⟩, .string ⟨#[115, 116, 111, 114, 101]⟩, .string ⟨#[99, 97, 115]⟩] 9) = w2 at *
      refine hK.out _ _ (by exact ⟨bx.cell 0, bx.cell 1, bx.cell 2⟩) (fun hHeld => ?_)
      clear hK K
      try simp only [Act.put, List.setIfInBounds_toArray, List.set_cons_zero, List.set_cons_succ]
      refine wpAnyZ_ready (rs := [8]) (by kernel_rfl) (by simp) ?_
      refine AllReadyZ.cons (opAt rfl) (fun K hK => ?_) ?_
      · skip
        go_simp
        refine (NM.out _ _ bl).mono ?_
        rintro e w3 ⟨rfl, rfl⟩
        try go_wp2_with fail
        refine hK.out _ _ (by exact ⟨bx.cell 0, bx.cell 1, bx.cell 2⟩) (fun hHeld => ?_)
        clear hK K
        try simp only [Act.put, List.setIfInBounds_toArray, List.set_cons_zero, List.set_cons_succ]
        refine' wpAnyZ_takeA (i := 9) (v := ?_) (opAt rfl) (by kernel_rfl) (by kernel_rfl) (by kernel_rfl) (by kernel_rfl) (fun _ _ _ h => h) (by assumption) (by rfl) (fun w hSw => ?_) ?_
        rotate_left
        · (try dsimp only at hSw); go_simp; (try rw [if_neg (by omega)]); (try with_reducible rfl)
        try simp only [Act.put, List.setIfInBounds_toArray, List.set_cons_zero, List.set_cons_succ]
        refine' wpAnyZ_takeA (i := 10) (v := ?_) (opAt rfl) (by kernel_rfl) (by kernel_rfl) (by kernel_rfl) (by kernel_rfl) (fun _ _ _ h => h) (by assumption) (by rfl) (fun w hSw => ?_) ?_
        rotate_left
        · (try dsimp only at hSw); go_simp; (try rw [if_neg (by omega)]); (try with_reducible rfl)
        try simp only [Act.put, List.setIfInBounds_toArray, List.set_cons_zero, List.set_cons_succ]
        refine wpAnyZ_ready (rs := [14]) (by kernel_rfl) (by simp) ?_
        refine AllReadyZ.cons (opAt rfl) (fun K hK => ?_) ?_
        · skip
          go_simp
          refine (IA.out _).mono ?_
          rintro e w4 ⟨rfl, hb1⟩
          replace B0 := B0.trans (hb1.mono (Nat.le_of_lt bx.lt))
          replace bx := bx.below hb1 bx.lt
          clear hb1
          try go_wp2_with fail
          refine hK.out _ _ (by exact ⟨bx.cell 0, bx.cell 1, bx.cell 2⟩) (fun hHeld => ?_)
          clear hK K
          try simp only [Act.put, List.setIfInBounds_toArray, List.set_cons_zero, List.set_cons_succ]
          refine' wpAnyZ_takeA (i := 15) (v := ?_) (opAt rfl) (by kernel_rfl) (by kernel_rfl) (by kernel_rfl) (by kernel_rfl) (fun _ _ _ h => h) (by assumption) (by rfl) (fun w hSw => ?_) ?_
          rotate_left
          · (try dsimp only at hSw); go_simp; (try rw [if_neg (by omega)]); (try with_reducible rfl)
          try simp only [Act.put, List.setIfInBounds_toArray, List.set_cons_zero, List.set_cons_succ]
          refine' wpAnyZ_takeA (i := 16) (v := ?_) (opAt rfl) (by kernel_rfl) (by kernel_rfl) (by kernel_rfl) (by kernel_rfl) (fun _ _ _ h => h) (by assumption) (by rfl) (fun w hSw => ?_) ?_
          rotate_left
          · (try dsimp only at hSw); go_simp; (try with_reducible rfl)
          try simp only [Act.put, List.setIfInBounds_toArray, List.set_cons_zero, List.set_cons_succ]
          refine wpAnyZ_done (by kernel_rfl) ?_ _
          have mc := fun j => bx.cell j
          have hlt0 := bx.lt
          clear bl
          go_wp2_with fail
          refine (TN.out _).mono ?_
          rintro e w5 ⟨rfl, hb1⟩
          replace B0 := B0.trans (hb1.mono (Nat.le_of_lt bx.lt))
          replace bx := bx.below hb1 bx.lt
          clear hb1
          clear mc hlt0
          have mc := fun j => bx.cell j
          have hlt0 := bx.lt
          go_wp2_with fail
          refine (TG.out _).mono ?_
          rintro e w6 ⟨rfl, hb1⟩
          replace B0 := B0.trans (hb1.mono (Nat.le_of_lt bx.lt))
          replace bx := bx.below hb1 bx.lt
          clear hb1
          clear mc hlt0
          have mc := fun j => bx.cell j
          have hlt0 := bx.lt
          go_wp2_with fail
          clear mc hlt0
          go_loopw [3, 4] (RStI g N #[.int .i64 th, .int .i64 2, .int .i64 at_, .int .u64 o, .int .u64 n, .int .u64 g', .slice A0 N cm] [ith, nm, iat, tn, eq1, tg] ms w) (fun _ v _ => N - (intOf v).toNat)
          case atStart => exact ⟨0, rfl, by omega, congrArg Value.string E0.out, bx, B0⟩
          case round =>
            have HNE := hide (show ([ith, nm, iat, tn, eq1, tg] : List ByteArray) ≠ [] by simp)
            generalize [ith, nm, iat, tn, eq1, tg] = W0 at *
            clear bx B0
            obtain ⟨j, rfl, hj, rfl, bx, B0⟩ := hrel
            have mc := fun j => bx.cell j
            have hlt0 := bx.lt
            by_cases hlt : j < N
            · have HRB := (HR.out.below B0)
              obtain ⟨ad, m, hA, hab, hmj, z0, zz⟩ := HRB.recAt MarkR.cells_len (by omega) hlt
              have z1 := zz 1 (by omega) (by omega)
              have z2 := zz 2 (by omega) (by omega)
              clear zz HRB
              subst hA
              have HMM := hide (show joinT (W0 ++ (ms.take (j + 1)).map MarkR.text) = joinT (W0 ++ (ms.take j).map MarkR.text) ++ sp1 ++ MarkR.text m by rw [marks_succ hmj, ← List.append_assoc, joinT_app1 (by simp [HNE.out])])
              have MKJ := hide (fun w2 => MK.out m (List.mem_of_getElem? hmj) w2)
              have s8 : (MarkR.text m).size ≤ 140 := markT_size _ _ _
              obtain ⟨mk, ma, mb⟩ := m
              replace z0 : wr.cell? (ad.add (j * 3)) = some (.int .i64 mk) := z0
              replace z1 : wr.cell? ⟨(ad.add (j * 3)).block, (ad.add (j * 3)).off + 1, none⟩ = some (.int .u64 ma) := z1
              replace z2 : wr.cell? ⟨(ad.add (j * 3)).block, (ad.add (j * 3)).off + 2, none⟩ = some (.int .u64 mb) := z2
              have MKJ2 := hide (show ∀ w2, Calls Tryd.prog 6 #[.agg #[.int .i64 mk, .int .u64 ma, .int .u64 mb]] w2 fun e w' => e = .returned (.string (MarkR.text (mk, ma, mb))) ∧ Below w2.heap.size w2 w' from MKJ.out)
              have s7 := HSB.out j
              clear MKJ hmj hab
              generalize MarkR.text (mk, ma, mb) = tm at *
              generalize joinT (W0 ++ (ms.take j).map MarkR.text) = acc at *
              have hltz : (j : Int) < (N : Int) := by omega
              have hj20 : j ≤ 20 := by omega
              go_wp2_with fail
              refine (MKJ2.out _).mono ?_
              rintro e w7 ⟨rfl, hb1⟩
              replace B0 := B0.trans (hb1.mono (Nat.le_of_lt bx.lt))
              replace bx := bx.below hb1 bx.lt
              clear hb1
              clear hlt0 mc z0 z1 z2
              have mc := fun j => bx.cell j
              have hlt0 := bx.lt
              go_wp2_with fail
              go_roundw
              case rel => exact ⟨j + 1, by go_num, by omega, by rw [HMM.out]; rfl, bx, B0⟩
              case measure => simp [intOf]; omega
            · obtain rfl : j = N := by omega
              have hmap : (ms.take j).map MarkR.text = ms.map MarkR.text := by rw [List.take_of_length_le (by rw [HN.out]; exact Nat.le_refl _)]
              rw [hmap]
              have HE := hide E.out
              generalize joinT (W0 ++ ms.map MarkR.text) = Q at *
              go_wp2_with fail
              go_ret
              exact ⟨by rw [HE.out]; rfl, by rw [HGW.out]; exact B0⟩
        exact AllReadyZ.nil
      exact AllReadyZ.nil
    exact AllReadyZ.nil
  refine AllReadyZ.cons (opAt rfl) (fun K hK => ?_) ?_
  · skip
    go_simp
    have hsz : g + 1 ≤ wd.heap.size := bx.lt
    have bl := Blk.new wd 9 #[.string ⟨#[108, 111, 97, 100]⟩, .string ⟨#[115, 116, 111, 114, 101]⟩, .string ⟨#[99, 97, 115]⟩]
    replace bx := bx.alloc (.cells #[.string ⟨#[108, 111, 97, 100]⟩, .string ⟨#[115, 116, 111, 114, 101]⟩, .string ⟨#[99, 97, 115]⟩] 9)
    replace B0 := B0.alloc (by omega) (.cells #[.string ⟨#[108, 111, 97, 100]⟩, .string ⟨#[115, 116, 111, 114, 101]⟩, .string ⟨#[99, 97, 115]⟩] 9)
    clear hsz
    generalize wd.alloc (.cells #[.string ⟨#[108, 111, 97, 100]⟩, .string ⟨#[115, 116, 111, 114, 101]⟩, .string ⟨#[99, 97, 115]⟩] 9) = w1 at *
    refine hK.out _ _ (by exact ⟨bx.cell 0, bx.cell 1, bx.cell 2⟩) (fun hHeld => ?_)
    clear hK K
    try simp only [Act.put, List.setIfInBounds_toArray, List.set_cons_zero, List.set_cons_succ]
    refine wpAnyZ_ready (rs := [2]) (by kernel_rfl) (by simp) ?_
    refine AllReadyZ.cons (opAt rfl) (fun K hK => ?_) ?_
    · skip
      go_simp
      refine (IT.out _).mono ?_
      rintro e w2 ⟨rfl, hb1⟩
      replace B0 := B0.trans (hb1.mono (Nat.le_of_lt bx.lt))
      replace bx := bx.below hb1 bx.lt
      replace bl := bl.below hb1 bl.lt
      clear hb1
      try go_wp2_with fail
      refine hK.out _ _ (by exact ⟨bx.cell 0, bx.cell 1, bx.cell 2⟩) (fun hHeld => ?_)
      clear hK K
      try simp only [Act.put, List.setIfInBounds_toArray, List.set_cons_zero, List.set_cons_succ]
      refine' wpAnyZ_takeA (i := 3) (v := ?_) (opAt rfl) (by kernel_rfl) (by kernel_rfl) (by kernel_rfl) (by kernel_rfl) (fun _ _ _ h => h) (by assumption) (by rfl) (fun w hSw => ?_) ?_
      rotate_left
      · (try dsimp only at hSw); go_simp; (try rw [if_neg (by omega)]); (try with_reducible rfl)
      try simp only [Act.put, List.setIfInBounds_toArray, List.set_cons_zero, List.set_cons_succ]
      refine wpAnyZ_ready (rs := [8]) (by kernel_rfl) (by simp) ?_
      refine AllReadyZ.cons (opAt rfl) (fun K hK => ?_) ?_
      · skip
        go_simp
        refine (NM.out _ _ bl).mono ?_
        rintro e w3 ⟨rfl, rfl⟩
        try go_wp2_with fail
        refine hK.out _ _ (by exact ⟨bx.cell 0, bx.cell 1, bx.cell 2⟩) (fun hHeld => ?_)
        clear hK K
        try simp only [Act.put, List.setIfInBounds_toArray, List.set_cons_zero, List.set_cons_succ]
        refine' wpAnyZ_takeA (i := 9) (v := ?_) (opAt rfl) (by kernel_rfl) (by kernel_rfl) (by kernel_rfl) (by kernel_rfl) (fun _ _ _ h => h) (by assumption) (by rfl) (fun w hSw => ?_) ?_
        rotate_left
        · (try dsimp only at hSw); go_simp; (try rw [if_neg (by omega)]); (try with_reducible rfl)
        try simp only [Act.put, List.setIfInBounds_toArray, List.set_cons_zero, List.set_cons_succ]
        refine' wpAnyZ_takeA (i := 10) (v := ?_) (opAt rfl) (by kernel_rfl) (by kernel_rfl) (by kernel_rfl) (by kernel_rfl) (fun _ _ _ h => h) (by assumption) (by rfl) (fun w hSw => ?_) ?_
        rotate_left
        · (try dsimp only at hSw); go_simp; (try rw [if_neg (by omega)]); (try with_reducible rfl)
        try simp only [Act.put, List.setIfInBounds_toArray, List.set_cons_zero, List.set_cons_succ]
        refine wpAnyZ_ready (rs := [14]) (by kernel_rfl) (by simp) ?_
        refine AllReadyZ.cons (opAt rfl) (fun K hK => ?_) ?_
        · skip
          go_simp
          refine (IA.out _).mono ?_
          rintro e w4 ⟨rfl, hb1⟩
          replace B0 := B0.trans (hb1.mono (Nat.le_of_lt bx.lt))
          replace bx := bx.below hb1 bx.lt
          clear hb1
          try go_wp2_with fail
          refine hK.out _ _ (by exact ⟨bx.cell 0, bx.cell 1, bx.cell 2⟩) (fun hHeld => ?_)
          clear hK K
          try simp only [Act.put, List.setIfInBounds_toArray, List.set_cons_zero, List.set_cons_succ]
          refine' wpAnyZ_takeA (i := 15) (v := ?_) (opAt rfl) (by kernel_rfl) (by kernel_rfl) (by kernel_rfl) (by kernel_rfl) (fun _ _ _ h => h) (by assumption) (by rfl) (fun w hSw => ?_) ?_
          rotate_left
          · (try dsimp only at hSw); go_simp; (try rw [if_neg (by omega)]); (try with_reducible rfl)
          try simp only [Act.put, List.setIfInBounds_toArray, List.set_cons_zero, List.set_cons_succ]
          refine' wpAnyZ_takeA (i := 16) (v := ?_) (opAt rfl) (by kernel_rfl) (by kernel_rfl) (by kernel_rfl) (by kernel_rfl) (fun _ _ _ h => h) (by assumption) (by rfl) (fun w hSw => ?_) ?_
          rotate_left
          · (try dsimp only at hSw); go_simp; (try with_reducible rfl)
          try simp only [Act.put, List.setIfInBounds_toArray, List.set_cons_zero, List.set_cons_succ]
          refine wpAnyZ_done (by kernel_rfl) ?_ _
          have mc := fun j => bx.cell j
          have hlt0 := bx.lt
          clear bl
          go_wp2_with fail
          refine (TN.out _).mono ?_
          rintro e w5 ⟨rfl, hb1⟩
          replace B0 := B0.trans (hb1.mono (Nat.le_of_lt bx.lt))
          replace bx := bx.below hb1 bx.lt
          clear hb1
          clear mc hlt0
          have mc := fun j => bx.cell j
          have hlt0 := bx.lt
          go_wp2_with fail
          refine (TG.out _).mono ?_
          rintro e w6 ⟨rfl, hb1⟩
          replace B0 := B0.trans (hb1.mono (Nat.le_of_lt bx.lt))
          replace bx := bx.below hb1 bx.lt
          clear hb1
          clear mc hlt0
          have mc := fun j => bx.cell j
          have hlt0 := bx.lt
          go_wp2_with fail
          clear mc hlt0
          go_loopw [3, 4] (RStI g N #[.int .i64 th, .int .i64 2, .int .i64 at_, .int .u64 o, .int .u64 n, .int .u64 g', .slice A0 N cm] [ith, nm, iat, tn, eq1, tg] ms w) (fun _ v _ => N - (intOf v).toNat)
          case atStart => exact ⟨0, rfl, by omega, congrArg Value.string E0.out, bx, B0⟩
          case round =>
            have HNE := hide (show ([ith, nm, iat, tn, eq1, tg] : List ByteArray) ≠ [] by simp)
            generalize [ith, nm, iat, tn, eq1, tg] = W0 at *
            clear bx B0
            obtain ⟨j, rfl, hj, rfl, bx, B0⟩ := hrel
            have mc := fun j => bx.cell j
            have hlt0 := bx.lt
            by_cases hlt : j < N
            · have HRB := (HR.out.below B0)
              obtain ⟨ad, m, hA, hab, hmj, z0, zz⟩ := HRB.recAt MarkR.cells_len (by omega) hlt
              have z1 := zz 1 (by omega) (by omega)
              have z2 := zz 2 (by omega) (by omega)
              clear zz HRB
              subst hA
              have HMM := hide (show joinT (W0 ++ (ms.take (j + 1)).map MarkR.text) = joinT (W0 ++ (ms.take j).map MarkR.text) ++ sp1 ++ MarkR.text m by rw [marks_succ hmj, ← List.append_assoc, joinT_app1 (by simp [HNE.out])])
              have MKJ := hide (fun w2 => MK.out m (List.mem_of_getElem? hmj) w2)
              have s8 : (MarkR.text m).size ≤ 140 := markT_size _ _ _
              obtain ⟨mk, ma, mb⟩ := m
              replace z0 : wr.cell? (ad.add (j * 3)) = some (.int .i64 mk) := z0
              replace z1 : wr.cell? ⟨(ad.add (j * 3)).block, (ad.add (j * 3)).off + 1, none⟩ = some (.int .u64 ma) := z1
              replace z2 : wr.cell? ⟨(ad.add (j * 3)).block, (ad.add (j * 3)).off + 2, none⟩ = some (.int .u64 mb) := z2
              have MKJ2 := hide (show ∀ w2, Calls Tryd.prog 6 #[.agg #[.int .i64 mk, .int .u64 ma, .int .u64 mb]] w2 fun e w' => e = .returned (.string (MarkR.text (mk, ma, mb))) ∧ Below w2.heap.size w2 w' from MKJ.out)
              have s7 := HSB.out j
              clear MKJ hmj hab
              generalize MarkR.text (mk, ma, mb) = tm at *
              generalize joinT (W0 ++ (ms.take j).map MarkR.text) = acc at *
              have hltz : (j : Int) < (N : Int) := by omega
              have hj20 : j ≤ 20 := by omega
              go_wp2_with fail
              refine (MKJ2.out _).mono ?_
              rintro e w7 ⟨rfl, hb1⟩
              replace B0 := B0.trans (hb1.mono (Nat.le_of_lt bx.lt))
              replace bx := bx.below hb1 bx.lt
              clear hb1
              clear hlt0 mc z0 z1 z2
              have mc := fun j => bx.cell j
              have hlt0 := bx.lt
              go_wp2_with fail
              go_roundw
              case rel => exact ⟨j + 1, by go_num, by omega, by rw [HMM.out]; rfl, bx, B0⟩
              case measure => simp [intOf]; omega
            · obtain rfl : j = N := by omega
              have hmap : (ms.take j).map MarkR.text = ms.map MarkR.text := by rw [List.take_of_length_le (by rw [HN.out]; exact Nat.le_refl _)]
              rw [hmap]
              have HE := hide E.out
              generalize joinT (W0 ++ ms.map MarkR.text) = Q at *
              go_wp2_with fail
              go_ret
              exact ⟨by rw [HE.out]; rfl, by rw [HGW.out]; exact B0⟩
        exact AllReadyZ.nil
      exact AllReadyZ.nil
    exact AllReadyZ.nil
  exact AllReadyZ.nil
set_option maxRecDepth 100000 in
set_option maxHeartbeats 4000000 in
theorem rstep_x (th k at_ : Int) (o n g' : Nat) (ms : List MarkR) (A0 : Option Addr) (N cm : Nat) (w : World) (hk : I64 k) (h3 : k ≠ 3) (h2 : k ≠ 2) (ht : I64 th) (ha : I64 at_) (q1 : o < 18446744073709551616) (q2 : n < 18446744073709551616) (q3 : g' < 18446744073709551616)
    (hms : ∀ m ∈ ms, MarkOk m) (hN : ms.length = N) (hl : N ≤ 20) (hr : Reads w w.heap.size 3 A0 N (ms.flatMap MarkR.cells)) :
    Calls Tryd.prog 8 #[.agg #[.int .i64 th, .int .i64 k, .int .i64 at_, .int .u64 o, .int .u64 n, .int .u64 g', .slice A0 N cm]] w fun e w' => e = .returned (.string (stepT th k at_ o n g' ms)) ∧ Below w.heap.size w w' := by
  have B0 := (Below.refl w.heap.size w).alloc (Nat.le_refl _) (.cells #[.int .i64 th, .int .i64 k, .int .i64 at_, .int .u64 o, .int .u64 n, .int .u64 g', .slice A0 N cm] 29)
  have bx := Blk.new w 29 #[.int .i64 th, .int .i64 k, .int .i64 at_, .int .u64 o, .int .u64 n, .int .u64 g', .slice A0 N cm]
  have IT := hide (fun w2 => rint_any th w2 ht)
  have IA := hide (fun w2 => rint_any at_ w2 ha)
  have TO := hide (fun w2 => number_any o w2 q1)
  have TN := hide (fun w2 => number_any n w2 q2)
  have TG := hide (fun w2 => number_any g' w2 q3)
  have NM := hide (fun b w2 (hb : Blk w2 b 9 (strs accL).toArray) => rname_any b 3 accL k w2 hk hb)
  rw [show (strs accL).toArray = #[.string ⟨#[108, 111, 97, 100]⟩, .string ⟨#[115, 116, 111, 114, 101]⟩, .string ⟨#[99, 97, 115]⟩] from rfl, show accL.length = 3 from rfl] at NM
  have MK := hide (fun (m : MarkR) (hm : m ∈ ms) w2 => rmark_any m.1 m.2.1 m.2.2 w2 (hms m hm).1 (hms m hm).2.1 (hms m hm).2.2)
  have s1 := intT_size th
  have s2 := nmd_size (n := 10) (by omega) accL_size k
  have s3 := intT_size at_
  have s4 := numT_size o
  have s5 := numT_size n
  have s6 := numT_size g'
  have E := hide (show stepT th k at_ o n g' ms = joinT ([intT th, nmd accL k, intT at_, eq1, numT g'] ++ ms.map MarkR.text) by simp [stepT, stepW, h3, h2])
  rw [show strOfNums (intL th) = intT th from rfl] at IT
  rw [show strOfNums (intL at_) = intT at_ from rfl] at IA
  generalize stepT th k at_ o n g' ms = R at *
  generalize nmd accL k = nm at *
  generalize intT th = ith at *
  generalize intT at_ = iat at *
  generalize numT o = to_ at *
  generalize numT n = tn at *
  generalize numT g' = tg at *
  have HR := hide hr
  have HN := hide hN
  have E0 := hide (show ith ++ ⟨#[32]⟩ ++ nm ++ ⟨#[32]⟩ ++ iat ++ ⟨#[32, 61, 32]⟩ ++ tg = joinT [ith, nm, iat, eq1, tg] by
    rw [joinT_fold, eq_sp]
    simp only [List.foldl_cons, List.foldl_nil, ba_assoc]
    rfl)
  have HSB := hide (fun j => joinT_size_le ([ith, nm, iat, eq1, tg] ++ (ms.take j).map MarkR.text) 140 (fun x hx => by
    rw [List.mem_append] at hx
    rcases hx with hx | hx
    · simp only [List.mem_cons, List.not_mem_nil, or_false] at hx
      have h0 : eq1.size = 1 := rfl
      rcases hx with rfl | rfl | rfl | rfl | rfl <;> omega
    · obtain ⟨m, _, rfl⟩ := List.mem_map.1 hx
      exact markT_size _ _ _))
  replace HSB := hide (fun j => Nat.le_trans (HSB.out j) (show ([ith, nm, iat, eq1, tg] ++ (ms.take j).map MarkR.text).length * (140 + 1) ≤ 4000 by
    simp only [List.length_append, List.length_cons, List.length_nil, List.length_map, List.length_take]
    omega))
  have k3 : (k == 3) = false := by simpa using h3
  have k2 : (k == 2) = false := by simpa using h2
  clear ht ha q1 q2 q3 hr hN hms hk h3 h2
  go_enter Tryd.func8, Tryd.ntmps8
  go_wp2_with fail
  generalize hgw : w.heap.size = g at *
  have HGW := hide hgw
  clear hgw
  generalize w.alloc (.cells #[.int .i64 th, .int .i64 k, .int .i64 at_, .int .u64 o, .int .u64 n, .int .u64 g', .slice A0 N cm] 29) = w0 at *
  refine wp_region_heldZ [] (fun w' => w'.cell? ⟨g, 0, none⟩ = some (.int .i64 th) ∧ w'.cell? ⟨g, 1, none⟩ = some (.int .i64 k) ∧ w'.cell? ⟨g, 2, none⟩ = some (.int .i64 at_)) (by kernel_rfl) (by exact ⟨bx.cell 0, bx.cell 1, bx.cell 2⟩) (fun hHeld => ?_)
  replace bx := bx.drew
  replace B0 := B0.drew
  generalize w0.drew = wd at *
  refine' wpAnyZ_takeA (i := 0) (v := ?_) (opAt rfl) (by kernel_rfl) (by kernel_rfl) (by kernel_rfl) (by kernel_rfl) (fun _ _ _ h => h) (by assumption) (by rfl) (fun w hSw => ?_) ?_
  rotate_left
  · (try dsimp only at hSw); go_simp; (try with_reducible rfl)
  try simp only [Act.put, List.setIfInBounds_toArray, List.set_cons_zero, List.set_cons_succ]
  refine' wpAnyZ_takeA (i := 1) (v := ?_) (opAt rfl) (by kernel_rfl) (by kernel_rfl) (by kernel_rfl) (by kernel_rfl) (fun _ _ _ h => h) (by assumption) (by rfl) (fun w hSw => ?_) ?_
  rotate_left
  · (try dsimp only at hSw); go_simp; (try with_reducible rfl)
  try simp only [Act.put, List.setIfInBounds_toArray, List.set_cons_zero, List.set_cons_succ]
  refine' wpAnyZ_takeA (i := 5) (v := ?_) (opAt rfl) (by kernel_rfl) (by kernel_rfl) (by kernel_rfl) (by kernel_rfl) (fun _ _ _ h => h) (by assumption) (by rfl) (fun w hSw => ?_) ?_
  rotate_left
  · (try dsimp only at hSw); go_simp; (try with_reducible rfl)
  try simp only [Act.put, List.setIfInBounds_toArray, List.set_cons_zero, List.set_cons_succ]
  refine' wpAnyZ_takeA (i := 6) (v := ?_) (opAt rfl) (by kernel_rfl) (by kernel_rfl) (by kernel_rfl) (by kernel_rfl) (fun _ _ _ h => h) (by assumption) (by rfl) (fun w hSw => ?_) ?_
  rotate_left
  · (try dsimp only at hSw); go_simp; (try with_reducible rfl)
  try simp only [Act.put, List.setIfInBounds_toArray, List.set_cons_zero, List.set_cons_succ]
  refine' wpAnyZ_takeA (i := 7) (v := ?_) (opAt rfl) (by kernel_rfl) (by kernel_rfl) (by kernel_rfl) (by kernel_rfl) (fun _ _ _ h => h) (by assumption) (by rfl) (fun w hSw => ?_) ?_
  rotate_left
  · (try dsimp only at hSw); go_simp; (try with_reducible rfl)
  try simp only [Act.put, List.setIfInBounds_toArray, List.set_cons_zero, List.set_cons_succ]
  refine' wpAnyZ_takeA (i := 11) (v := ?_) (opAt rfl) (by kernel_rfl) (by kernel_rfl) (by kernel_rfl) (by kernel_rfl) (fun _ _ _ h => h) (by assumption) (by rfl) (fun w hSw => ?_) ?_
  rotate_left
  · (try dsimp only at hSw); go_simp; (try with_reducible rfl)
  try simp only [Act.put, List.setIfInBounds_toArray, List.set_cons_zero, List.set_cons_succ]
  refine' wpAnyZ_takeA (i := 12) (v := ?_) (opAt rfl) (by kernel_rfl) (by kernel_rfl) (by kernel_rfl) (by kernel_rfl) (fun _ _ _ h => h) (by assumption) (by rfl) (fun w hSw => ?_) ?_
  rotate_left
  · (try dsimp only at hSw); go_simp; (try with_reducible rfl)
  try simp only [Act.put, List.setIfInBounds_toArray, List.set_cons_zero, List.set_cons_succ]
  refine' wpAnyZ_takeA (i := 13) (v := ?_) (opAt rfl) (by kernel_rfl) (by kernel_rfl) (by kernel_rfl) (by kernel_rfl) (fun _ _ _ h => h) (by assumption) (by rfl) (fun w hSw => ?_) ?_
  rotate_left
  · (try dsimp only at hSw); go_simp; (try with_reducible rfl)
  try simp only [Act.put, List.setIfInBounds_toArray, List.set_cons_zero, List.set_cons_succ]
  refine wpAnyZ_ready (rs := [2, 4]) (by kernel_rfl) (by simp) ?_
  refine AllReadyZ.cons (opAt rfl) (fun K hK => ?_) ?_
  · skip
    go_simp
    refine (IT.out _).mono ?_
    rintro e w1 ⟨rfl, hb1⟩
    replace B0 := B0.trans (hb1.mono (Nat.le_of_lt bx.lt))
    replace bx := bx.below hb1 bx.lt
    clear hb1
    try go_wp2_with fail
    refine hK.out _ _ (by exact ⟨bx.cell 0, bx.cell 1, bx.cell 2⟩) (fun hHeld => ?_)
    clear hK K
    try simp only [Act.put, List.setIfInBounds_toArray, List.set_cons_zero, List.set_cons_succ]
    refine' wpAnyZ_takeA (i := 3) (v := ?_) (opAt rfl) (by kernel_rfl) (by kernel_rfl) (by kernel_rfl) (by kernel_rfl) (fun _ _ _ h => h) (by assumption) (by rfl) (fun w hSw => ?_) ?_
    rotate_left
    · (try dsimp only at hSw); go_simp; (try rw [if_neg (by omega)]); (try with_reducible rfl)
    try simp only [Act.put, List.setIfInBounds_toArray, List.set_cons_zero, List.set_cons_succ]
    refine wpAnyZ_ready (rs := [4]) (by kernel_rfl) (by simp) ?_
    refine AllReadyZ.cons (opAt rfl) (fun K hK => ?_) ?_
    · skip
      go_simp
      have hsz : g + 1 ≤ w1.heap.size := bx.lt
      have bl := Blk.new w1 9 #[.string ⟨#[108, 111, 97, 100]⟩, .string ⟨#[115, 116, 111, 114, 101]⟩, .string ⟨#[99, 97, 115]⟩]
      replace bx := bx.alloc (.cells #[.string ⟨#[108, 111, 97, 100]⟩, .string ⟨#[115, 116, 111, 114, 101]⟩, .string ⟨#[99, 97, 115]⟩] 9)
      replace B0 := B0.alloc (by omega) (.cells #[.string ⟨#[108, 111, 97, 100]⟩, .string ⟨#[115, 116, 111, 114, 101]⟩, .string ⟨#[99, 97, 115]⟩] 9)
      clear hsz
      generalize w1.alloc (.cells #[.string ⟨#[108, 111, 97, 100]⟩, .string ⟨#[115, 116, 111, 114, 101]⟩, .string ⟨#[99, 97, 115]⟩] 9) = w2 at *
      refine hK.out _ _ (by exact ⟨bx.cell 0, bx.cell 1, bx.cell 2⟩) (fun hHeld => ?_)
      clear hK K
      try simp only [Act.put, List.setIfInBounds_toArray, List.set_cons_zero, List.set_cons_succ]
      refine wpAnyZ_ready (rs := [8]) (by kernel_rfl) (by simp) ?_
      refine AllReadyZ.cons (opAt rfl) (fun K hK => ?_) ?_
      · skip
        go_simp
        refine (NM.out _ _ bl).mono ?_
        rintro e w3 ⟨rfl, rfl⟩
        try go_wp2_with fail
        refine hK.out _ _ (by exact ⟨bx.cell 0, bx.cell 1, bx.cell 2⟩) (fun hHeld => ?_)
        clear hK K
        try simp only [Act.put, List.setIfInBounds_toArray, List.set_cons_zero, List.set_cons_succ]
        refine' wpAnyZ_takeA (i := 9) (v := ?_) (opAt rfl) (by kernel_rfl) (by kernel_rfl) (by kernel_rfl) (by kernel_rfl) (fun _ _ _ h => h) (by assumption) (by rfl) (fun w hSw => ?_) ?_
        rotate_left
        · (try dsimp only at hSw); go_simp; (try rw [if_neg (by omega)]); (try with_reducible rfl)
        try simp only [Act.put, List.setIfInBounds_toArray, List.set_cons_zero, List.set_cons_succ]
        refine' wpAnyZ_takeA (i := 10) (v := ?_) (opAt rfl) (by kernel_rfl) (by kernel_rfl) (by kernel_rfl) (by kernel_rfl) (fun _ _ _ h => h) (by assumption) (by rfl) (fun w hSw => ?_) ?_
        rotate_left
        · (try dsimp only at hSw); go_simp; (try rw [if_neg (by omega)]); (try with_reducible rfl)
        try simp only [Act.put, List.setIfInBounds_toArray, List.set_cons_zero, List.set_cons_succ]
        refine wpAnyZ_ready (rs := [14]) (by kernel_rfl) (by simp) ?_
        refine AllReadyZ.cons (opAt rfl) (fun K hK => ?_) ?_
        · skip
          go_simp
          refine (IA.out _).mono ?_
          rintro e w4 ⟨rfl, hb1⟩
          replace B0 := B0.trans (hb1.mono (Nat.le_of_lt bx.lt))
          replace bx := bx.below hb1 bx.lt
          clear hb1
          try go_wp2_with fail
          refine hK.out _ _ (by exact ⟨bx.cell 0, bx.cell 1, bx.cell 2⟩) (fun hHeld => ?_)
          clear hK K
          try simp only [Act.put, List.setIfInBounds_toArray, List.set_cons_zero, List.set_cons_succ]
          refine' wpAnyZ_takeA (i := 15) (v := ?_) (opAt rfl) (by kernel_rfl) (by kernel_rfl) (by kernel_rfl) (by kernel_rfl) (fun _ _ _ h => h) (by assumption) (by rfl) (fun w hSw => ?_) ?_
          rotate_left
          · (try dsimp only at hSw); go_simp; (try rw [if_neg (by omega)]); (try with_reducible rfl)
          try simp only [Act.put, List.setIfInBounds_toArray, List.set_cons_zero, List.set_cons_succ]
          refine' wpAnyZ_takeA (i := 16) (v := ?_) (opAt rfl) (by kernel_rfl) (by kernel_rfl) (by kernel_rfl) (by kernel_rfl) (fun _ _ _ h => h) (by assumption) (by rfl) (fun w hSw => ?_) ?_
          rotate_left
          · (try dsimp only at hSw); go_simp; (try with_reducible rfl)
          try simp only [Act.put, List.setIfInBounds_toArray, List.set_cons_zero, List.set_cons_succ]
          refine wpAnyZ_done (by kernel_rfl) ?_ _
          have mc := fun j => bx.cell j
          have hlt0 := bx.lt
          clear bl
          go_wp2_with fail
          refine (TG.out _).mono ?_
          rintro e w5 ⟨rfl, hb1⟩
          replace B0 := B0.trans (hb1.mono (Nat.le_of_lt bx.lt))
          replace bx := bx.below hb1 bx.lt
          clear hb1
          clear mc hlt0
          have mc := fun j => bx.cell j
          have hlt0 := bx.lt
          go_wp2_with fail
          clear mc hlt0
          go_loopw [3, 4] (RStI g N #[.int .i64 th, .int .i64 k, .int .i64 at_, .int .u64 o, .int .u64 n, .int .u64 g', .slice A0 N cm] [ith, nm, iat, eq1, tg] ms w) (fun _ v _ => N - (intOf v).toNat)
          case atStart => exact ⟨0, rfl, by omega, congrArg Value.string E0.out, bx, B0⟩
          case round =>
            have HNE := hide (show ([ith, nm, iat, eq1, tg] : List ByteArray) ≠ [] by simp)
            generalize [ith, nm, iat, eq1, tg] = W0 at *
            clear bx B0
            obtain ⟨j, rfl, hj, rfl, bx, B0⟩ := hrel
            have mc := fun j => bx.cell j
            have hlt0 := bx.lt
            by_cases hlt : j < N
            · have HRB := (HR.out.below B0)
              obtain ⟨ad, m, hA, hab, hmj, z0, zz⟩ := HRB.recAt MarkR.cells_len (by omega) hlt
              have z1 := zz 1 (by omega) (by omega)
              have z2 := zz 2 (by omega) (by omega)
              clear zz HRB
              subst hA
              have HMM := hide (show joinT (W0 ++ (ms.take (j + 1)).map MarkR.text) = joinT (W0 ++ (ms.take j).map MarkR.text) ++ sp1 ++ MarkR.text m by rw [marks_succ hmj, ← List.append_assoc, joinT_app1 (by simp [HNE.out])])
              have MKJ := hide (fun w2 => MK.out m (List.mem_of_getElem? hmj) w2)
              have s8 : (MarkR.text m).size ≤ 140 := markT_size _ _ _
              obtain ⟨mk, ma, mb⟩ := m
              replace z0 : wr.cell? (ad.add (j * 3)) = some (.int .i64 mk) := z0
              replace z1 : wr.cell? ⟨(ad.add (j * 3)).block, (ad.add (j * 3)).off + 1, none⟩ = some (.int .u64 ma) := z1
              replace z2 : wr.cell? ⟨(ad.add (j * 3)).block, (ad.add (j * 3)).off + 2, none⟩ = some (.int .u64 mb) := z2
              have MKJ2 := hide (show ∀ w2, Calls Tryd.prog 6 #[.agg #[.int .i64 mk, .int .u64 ma, .int .u64 mb]] w2 fun e w' => e = .returned (.string (MarkR.text (mk, ma, mb))) ∧ Below w2.heap.size w2 w' from MKJ.out)
              have s7 := HSB.out j
              clear MKJ hmj hab
              generalize MarkR.text (mk, ma, mb) = tm at *
              generalize joinT (W0 ++ (ms.take j).map MarkR.text) = acc at *
              have hltz : (j : Int) < (N : Int) := by omega
              have hj20 : j ≤ 20 := by omega
              go_wp2_with fail
              refine (MKJ2.out _).mono ?_
              rintro e w7 ⟨rfl, hb1⟩
              replace B0 := B0.trans (hb1.mono (Nat.le_of_lt bx.lt))
              replace bx := bx.below hb1 bx.lt
              clear hb1
              clear hlt0 mc z0 z1 z2
              have mc := fun j => bx.cell j
              have hlt0 := bx.lt
              go_wp2_with fail
              go_roundw
              case rel => exact ⟨j + 1, by go_num, by omega, by rw [HMM.out]; rfl, bx, B0⟩
              case measure => simp [intOf]; omega
            · obtain rfl : j = N := by omega
              have hmap : (ms.take j).map MarkR.text = ms.map MarkR.text := by rw [List.take_of_length_le (by rw [HN.out]; exact Nat.le_refl _)]
              rw [hmap]
              have HE := hide E.out
              generalize joinT (W0 ++ ms.map MarkR.text) = Q at *
              go_wp2_with fail
              go_ret
              exact ⟨by rw [HE.out]; rfl, by rw [HGW.out]; exact B0⟩
        exact AllReadyZ.nil
      exact AllReadyZ.nil
    exact AllReadyZ.nil
  refine AllReadyZ.cons (opAt rfl) (fun K hK => ?_) ?_
  · skip
    go_simp
    have hsz : g + 1 ≤ wd.heap.size := bx.lt
    have bl := Blk.new wd 9 #[.string ⟨#[108, 111, 97, 100]⟩, .string ⟨#[115, 116, 111, 114, 101]⟩, .string ⟨#[99, 97, 115]⟩]
    replace bx := bx.alloc (.cells #[.string ⟨#[108, 111, 97, 100]⟩, .string ⟨#[115, 116, 111, 114, 101]⟩, .string ⟨#[99, 97, 115]⟩] 9)
    replace B0 := B0.alloc (by omega) (.cells #[.string ⟨#[108, 111, 97, 100]⟩, .string ⟨#[115, 116, 111, 114, 101]⟩, .string ⟨#[99, 97, 115]⟩] 9)
    clear hsz
    generalize wd.alloc (.cells #[.string ⟨#[108, 111, 97, 100]⟩, .string ⟨#[115, 116, 111, 114, 101]⟩, .string ⟨#[99, 97, 115]⟩] 9) = w1 at *
    refine hK.out _ _ (by exact ⟨bx.cell 0, bx.cell 1, bx.cell 2⟩) (fun hHeld => ?_)
    clear hK K
    try simp only [Act.put, List.setIfInBounds_toArray, List.set_cons_zero, List.set_cons_succ]
    refine wpAnyZ_ready (rs := [2]) (by kernel_rfl) (by simp) ?_
    refine AllReadyZ.cons (opAt rfl) (fun K hK => ?_) ?_
    · skip
      go_simp
      refine (IT.out _).mono ?_
      rintro e w2 ⟨rfl, hb1⟩
      replace B0 := B0.trans (hb1.mono (Nat.le_of_lt bx.lt))
      replace bx := bx.below hb1 bx.lt
      replace bl := bl.below hb1 bl.lt
      clear hb1
      try go_wp2_with fail
      refine hK.out _ _ (by exact ⟨bx.cell 0, bx.cell 1, bx.cell 2⟩) (fun hHeld => ?_)
      clear hK K
      try simp only [Act.put, List.setIfInBounds_toArray, List.set_cons_zero, List.set_cons_succ]
      refine' wpAnyZ_takeA (i := 3) (v := ?_) (opAt rfl) (by kernel_rfl) (by kernel_rfl) (by kernel_rfl) (by kernel_rfl) (fun _ _ _ h => h) (by assumption) (by rfl) (fun w hSw => ?_) ?_
      rotate_left
      · (try dsimp only at hSw); go_simp; (try rw [if_neg (by omega)]); (try with_reducible rfl)
      try simp only [Act.put, List.setIfInBounds_toArray, List.set_cons_zero, List.set_cons_succ]
      refine wpAnyZ_ready (rs := [8]) (by kernel_rfl) (by simp) ?_
      refine AllReadyZ.cons (opAt rfl) (fun K hK => ?_) ?_
      · skip
        go_simp
        refine (NM.out _ _ bl).mono ?_
        rintro e w3 ⟨rfl, rfl⟩
        try go_wp2_with fail
        refine hK.out _ _ (by exact ⟨bx.cell 0, bx.cell 1, bx.cell 2⟩) (fun hHeld => ?_)
        clear hK K
        try simp only [Act.put, List.setIfInBounds_toArray, List.set_cons_zero, List.set_cons_succ]
        refine' wpAnyZ_takeA (i := 9) (v := ?_) (opAt rfl) (by kernel_rfl) (by kernel_rfl) (by kernel_rfl) (by kernel_rfl) (fun _ _ _ h => h) (by assumption) (by rfl) (fun w hSw => ?_) ?_
        rotate_left
        · (try dsimp only at hSw); go_simp; (try rw [if_neg (by omega)]); (try with_reducible rfl)
        try simp only [Act.put, List.setIfInBounds_toArray, List.set_cons_zero, List.set_cons_succ]
        refine' wpAnyZ_takeA (i := 10) (v := ?_) (opAt rfl) (by kernel_rfl) (by kernel_rfl) (by kernel_rfl) (by kernel_rfl) (fun _ _ _ h => h) (by assumption) (by rfl) (fun w hSw => ?_) ?_
        rotate_left
        · (try dsimp only at hSw); go_simp; (try rw [if_neg (by omega)]); (try with_reducible rfl)
        try simp only [Act.put, List.setIfInBounds_toArray, List.set_cons_zero, List.set_cons_succ]
        refine wpAnyZ_ready (rs := [14]) (by kernel_rfl) (by simp) ?_
        refine AllReadyZ.cons (opAt rfl) (fun K hK => ?_) ?_
        · skip
          go_simp
          refine (IA.out _).mono ?_
          rintro e w4 ⟨rfl, hb1⟩
          replace B0 := B0.trans (hb1.mono (Nat.le_of_lt bx.lt))
          replace bx := bx.below hb1 bx.lt
          clear hb1
          try go_wp2_with fail
          refine hK.out _ _ (by exact ⟨bx.cell 0, bx.cell 1, bx.cell 2⟩) (fun hHeld => ?_)
          clear hK K
          try simp only [Act.put, List.setIfInBounds_toArray, List.set_cons_zero, List.set_cons_succ]
          refine' wpAnyZ_takeA (i := 15) (v := ?_) (opAt rfl) (by kernel_rfl) (by kernel_rfl) (by kernel_rfl) (by kernel_rfl) (fun _ _ _ h => h) (by assumption) (by rfl) (fun w hSw => ?_) ?_
          rotate_left
          · (try dsimp only at hSw); go_simp; (try rw [if_neg (by omega)]); (try with_reducible rfl)
          try simp only [Act.put, List.setIfInBounds_toArray, List.set_cons_zero, List.set_cons_succ]
          refine' wpAnyZ_takeA (i := 16) (v := ?_) (opAt rfl) (by kernel_rfl) (by kernel_rfl) (by kernel_rfl) (by kernel_rfl) (fun _ _ _ h => h) (by assumption) (by rfl) (fun w hSw => ?_) ?_
          rotate_left
          · (try dsimp only at hSw); go_simp; (try with_reducible rfl)
          try simp only [Act.put, List.setIfInBounds_toArray, List.set_cons_zero, List.set_cons_succ]
          refine wpAnyZ_done (by kernel_rfl) ?_ _
          have mc := fun j => bx.cell j
          have hlt0 := bx.lt
          clear bl
          go_wp2_with fail
          refine (TG.out _).mono ?_
          rintro e w5 ⟨rfl, hb1⟩
          replace B0 := B0.trans (hb1.mono (Nat.le_of_lt bx.lt))
          replace bx := bx.below hb1 bx.lt
          clear hb1
          clear mc hlt0
          have mc := fun j => bx.cell j
          have hlt0 := bx.lt
          go_wp2_with fail
          clear mc hlt0
          go_loopw [3, 4] (RStI g N #[.int .i64 th, .int .i64 k, .int .i64 at_, .int .u64 o, .int .u64 n, .int .u64 g', .slice A0 N cm] [ith, nm, iat, eq1, tg] ms w) (fun _ v _ => N - (intOf v).toNat)
          case atStart => exact ⟨0, rfl, by omega, congrArg Value.string E0.out, bx, B0⟩
          case round =>
            have HNE := hide (show ([ith, nm, iat, eq1, tg] : List ByteArray) ≠ [] by simp)
            generalize [ith, nm, iat, eq1, tg] = W0 at *
            clear bx B0
            obtain ⟨j, rfl, hj, rfl, bx, B0⟩ := hrel
            have mc := fun j => bx.cell j
            have hlt0 := bx.lt
            by_cases hlt : j < N
            · have HRB := (HR.out.below B0)
              obtain ⟨ad, m, hA, hab, hmj, z0, zz⟩ := HRB.recAt MarkR.cells_len (by omega) hlt
              have z1 := zz 1 (by omega) (by omega)
              have z2 := zz 2 (by omega) (by omega)
              clear zz HRB
              subst hA
              have HMM := hide (show joinT (W0 ++ (ms.take (j + 1)).map MarkR.text) = joinT (W0 ++ (ms.take j).map MarkR.text) ++ sp1 ++ MarkR.text m by rw [marks_succ hmj, ← List.append_assoc, joinT_app1 (by simp [HNE.out])])
              have MKJ := hide (fun w2 => MK.out m (List.mem_of_getElem? hmj) w2)
              have s8 : (MarkR.text m).size ≤ 140 := markT_size _ _ _
              obtain ⟨mk, ma, mb⟩ := m
              replace z0 : wr.cell? (ad.add (j * 3)) = some (.int .i64 mk) := z0
              replace z1 : wr.cell? ⟨(ad.add (j * 3)).block, (ad.add (j * 3)).off + 1, none⟩ = some (.int .u64 ma) := z1
              replace z2 : wr.cell? ⟨(ad.add (j * 3)).block, (ad.add (j * 3)).off + 2, none⟩ = some (.int .u64 mb) := z2
              have MKJ2 := hide (show ∀ w2, Calls Tryd.prog 6 #[.agg #[.int .i64 mk, .int .u64 ma, .int .u64 mb]] w2 fun e w' => e = .returned (.string (MarkR.text (mk, ma, mb))) ∧ Below w2.heap.size w2 w' from MKJ.out)
              have s7 := HSB.out j
              clear MKJ hmj hab
              generalize MarkR.text (mk, ma, mb) = tm at *
              generalize joinT (W0 ++ (ms.take j).map MarkR.text) = acc at *
              have hltz : (j : Int) < (N : Int) := by omega
              have hj20 : j ≤ 20 := by omega
              go_wp2_with fail
              refine (MKJ2.out _).mono ?_
              rintro e w7 ⟨rfl, hb1⟩
              replace B0 := B0.trans (hb1.mono (Nat.le_of_lt bx.lt))
              replace bx := bx.below hb1 bx.lt
              clear hb1
              clear hlt0 mc z0 z1 z2
              have mc := fun j => bx.cell j
              have hlt0 := bx.lt
              go_wp2_with fail
              go_roundw
              case rel => exact ⟨j + 1, by go_num, by omega, by rw [HMM.out]; rfl, bx, B0⟩
              case measure => simp [intOf]; omega
            · obtain rfl : j = N := by omega
              have hmap : (ms.take j).map MarkR.text = ms.map MarkR.text := by rw [List.take_of_length_le (by rw [HN.out]; exact Nat.le_refl _)]
              rw [hmap]
              have HE := hide E.out
              generalize joinT (W0 ++ ms.map MarkR.text) = Q at *
              go_wp2_with fail
              go_ret
              exact ⟨by rw [HE.out]; rfl, by rw [HGW.out]; exact B0⟩
        exact AllReadyZ.nil
      exact AllReadyZ.nil
    exact AllReadyZ.nil
  exact AllReadyZ.nil
end Go.Proofs.YtlnckjemfabckaaDoor

/-
  DumpSteps: the walk.
-/
namespace Go.Proofs.YtlnckjemfabckaaDoor
open Go.RowKit
attribute [local go_sem] past_cell past_cell_add

structure StepOk (w : World) (s : StepR) : Prop where
  h1 : I64 s.th
  h2 : I64 s.k
  h3 : I64 s.at_
  h4 : s.o < 18446744073709551616
  h5 : s.n < 18446744073709551616
  h6 : s.g < 18446744073709551616
  hm : ∀ m ∈ s.ms, MarkOk m
  hr : Reads w w.heap.size 3 s.A s.ms.length (s.ms.flatMap MarkR.cells)
theorem StepOk.below {w w' : World} {s : StepR} (h : StepOk w s) (hb : Below w.heap.size w w') : StepOk w' s := ⟨h.h1, h.h2, h.h3, h.h4, h.h5, h.h6, h.hm, (h.hr.below hb).more hb.size⟩
theorem dstep_any (s : StepR) (w : World) (hT : Tab w) (h : StepOk w s) (hl : s.ms.length ≤ 20) :
    Calls Tryd.prog 7 #[.agg (StepR.cells s).toArray] w fun e w' => e = .returned (.string (StepR.text s)) ∧ Below w.heap.size w w' := by
  obtain ⟨th, k, at_, o, n, g, ms, A, c⟩ := s
  obtain ⟨h1, h2, h3, h4, h5, h6, hm, hr⟩ := h
  dsimp only at h1 h2 h3 h4 h5 h6 hm hr hl
  by_cases e3 : k = 3
  · subst e3
    exact step_3 th at_ o n g ms A ms.length c w hT h1 h3 h4 h5 h6 hm rfl hl hr
  by_cases e2 : k = 2
  · subst e2
    exact step_2 th at_ o n g ms A ms.length c w hT h1 h3 h4 h5 h6 hm rfl hl hr
  exact step_x th k at_ o n g ms A ms.length c w hT h2 e3 e2 h1 h3 h4 h5 h6 hm rfl hl hr
theorem rstep_any (s : StepR) (w : World) (h : StepOk w s) (hl : s.ms.length ≤ 20) :
    Calls Tryd.prog 8 #[.agg (StepR.cells s).toArray] w fun e w' => e = .returned (.string (StepR.text s)) ∧ Below w.heap.size w w' := by
  obtain ⟨th, k, at_, o, n, g, ms, A, c⟩ := s
  obtain ⟨h1, h2, h3, h4, h5, h6, hm, hr⟩ := h
  dsimp only at h1 h2 h3 h4 h5 h6 hm hr hl
  by_cases e3 : k = 3
  · subst e3
    exact rstep_3 th at_ o n g ms A ms.length c w h1 h3 h4 h5 h6 hm rfl hl hr
  by_cases e2 : k = 2
  · subst e2
    exact rstep_2 th at_ o n g ms A ms.length c w h1 h3 h4 h5 h6 hm rfl hl hr
  exact rstep_x th k at_ o n g ms A ms.length c w h2 e3 e2 h1 h3 h4 h5 h6 hm rfl hl hr
set_option maxRecDepth 100000 in
set_option maxHeartbeats 1000000 in
theorem steps_far (A : Option Addr) (n c : Nat) (w : World) (hT : Tab w) (h : (60 : Int) < n) :
    Calls Tryd.prog 3 #[.slice A n c] w fun e w' => e = .returned (.bool true) ∧ Below w.heap.size w w' := by
  have AW := hide (awake38 w hT)
  clear hT
  go_enter Tryd.func3, Tryd.ntmps3
  go_wp2_with fail
  refine AW.out.mono ?_
  rintro e w1 ⟨rfl, hb1⟩
  go_wp2_with fail
  go_ret
  exact ⟨rfl, hb1⟩
def DsO (N : Nat) (l : List StepR) (w : World) (v3 v4 : Value) (wr : World) : Prop :=
  ∃ (i : Nat), v4 = .int .i64 i ∧ i ≤ N ∧ v3 = .string (linesT ((l.take i).map StepR.text)) ∧ (∀ s ∈ l.take i, s.ms.length ≤ 20) ∧ Below w.heap.size w wr
def DsI (M : Nat) (w : World) (v5 : Value) (wr : World) : Prop := ∃ (k : Nat), v5 = .int .i64 k ∧ k ≤ M ∧ Below w.heap.size w wr
set_option maxRecDepth 100000 in
set_option maxHeartbeats 4000000 in
theorem steps_yes (A : Option Addr) (n c : Nat) (l : List StepR) (w : World) (hT : Tab w) (h : ¬ (60 : Int) < n) (hr : Reads w w.heap.size 7 A n (l.flatMap StepR.cells)) (hok : ∀ s ∈ l, StepOk w s) :
    Calls Tryd.prog 3 #[.slice A n c] w fun e w' => e = .returned (.bool true) ∧ Below w.heap.size w w' := by
  have hl : l.length = n := hr.lenRec StepR.cells_len (by omega)
  have AW := hide (fun w2 (hb : Below w.heap.size w w2) => awake38 w2 (hT.below hb))
  have DS := hide (fun (hs : ∀ s ∈ l, s.ms.length ≤ 20) w2 (hb : Below w.heap.size w w2) => dsteps_any A n c l w2 ((hr.below hb).more hb.size) (by omega) (fun s hm w3 hb3 => dstep_any s w3 ((hT.below hb).below hb3) (((hok s hm).below hb).below hb3) (hs s hm)) (fun s hm => stepT_size _ _ _ _ _ _ _ (hs s hm)))
  have DM := hide (fun s (hs : s ∈ l) (m : MarkR) (hm : m ∈ s.ms) w2 (hb : Below w.heap.size w w2) => mark_any m.1 m.2.1 m.2.2 w2 (hT.below hb) ((hok s hs).hm m hm).1 ((hok s hs).hm m hm).2.1 ((hok s hs).hm m hm).2.2)
  have RM := hide (fun s (hs : s ∈ l) (m : MarkR) (hm : m ∈ s.ms) w2 => rmark_any m.1 m.2.1 m.2.2 w2 ((hok s hs).hm m hm).1 ((hok s hs).hm m hm).2.1 ((hok s hs).hm m hm).2.2)
  have DT := hide (fun s (hs : s ∈ l) (hl2 : s.ms.length ≤ 20) w2 (hb : Below w.heap.size w w2) => dstep_any s w2 (hT.below hb) ((hok s hs).below hb) hl2)
  have RT := hide (fun s (hs : s ∈ l) (hl2 : s.ms.length ≤ 20) w2 (hb : Below w.heap.size w w2) => rstep_any s w2 ((hok s hs).below hb) hl2)
  have HRM := hide (fun s (hs : s ∈ l) => (hok s hs).hr)
  have HR := hide hr
  have HL := hide hl
  have hn : n ≤ 60 := by omega
  clear hT hr hok hl
  go_enter Tryd.func3, Tryd.ntmps3
  go_wp2_with fail
  go_loopw [3, 4] (DsO n l w) (fun _ v _ => n - (intOf v).toNat)
  case atStart => exact ⟨0, rfl, by omega, rfl, by simp, Below.refl _ _⟩
  case round =>
    obtain ⟨i, rfl, hi, rfl, hsm, B0⟩ := hrel
    have HSM := hide hsm
    clear hsm
    by_cases hlt : i < n
    · have hltz : (i : Int) < (n : Int) := by omega
      obtain ⟨ad, s, hA, hab, hsi, z0, zz⟩ := HR.out.recAt StepR.cells_len (by omega) hlt
      have hmem := List.mem_of_getElem? hsi
      have HZ : ∀ w2, Below w.heap.size w w2 → w2.cell? (ad.add (i * 7)) = (StepR.cells s)[0]? ∧ ∀ j, 0 < j → j < 7 → w2.cell? ⟨(ad.add (i * 7)).block, (ad.add (i * 7)).off + j, none⟩ = (StepR.cells s)[j]? := fun w2 hb =>
        ⟨(hb.cell (p := ad.add (i * 7)) (by rw [block_of_add]; exact hab)).trans z0, fun j h0 h7 => (hb.cell (p := ⟨(ad.add (i * 7)).block, (ad.add (i * 7)).off + j, none⟩) (by show (ad.add (i * 7)).block < _; rw [block_of_add]; exact hab)).trans (zz j h0 h7)⟩
      have HAB := hide hab
      clear z0 zz hab
      subst hA
      have HMR := hide (HRM.out s hmem)
      have DMs := hide (DM.out s hmem)
      have RMs := hide (RM.out s hmem)
      have DTs := hide (DT.out s hmem)
      have RTs := hide (RT.out s hmem)
      have HSN := hide (show linesT ((l.take (i + 1)).map StepR.text) = linesT ((l.take i).map StepR.text) ++ StepR.text s ++ nl1 by rw [take_snoc hsi, List.map_append, List.map_singleton, linesT_snoc])
      have HTK := hide (show ∀ x ∈ l.take (i + 1), x ∈ l.take i ∨ x = s by
        intro x hx
        rw [take_snoc hsi, List.mem_append, List.mem_singleton] at hx
        exact hx)
      have hSZ : s.ms.length ≤ 20 → (StepR.text s).size ≤ 4000 := fun h => stepT_size _ _ _ _ _ _ _ h
      have HSZ := hide hSZ
      clear hSZ
      have hLZ := linesT_size 4000 ((l.take i).map StepR.text) (fun x hx => by
        obtain ⟨y, hy, rfl⟩ := List.mem_map.1 hx
        exact stepT_size _ _ _ _ _ _ _ (HSM.out y hy))
      have hLZ2 : (linesT ((l.take i).map StepR.text)).size ≤ 1000000 := by
        rw [List.length_map, List.length_take] at hLZ
        have := Nat.mul_le_mul_right (4000 + 1) (show min i l.length ≤ 60 by omega)
        omega
      clear hLZ hsi hmem
      generalize StepR.text s = tx at *
      generalize linesT ((l.take i).map StepR.text) = acc at *
      obtain ⟨th, k0, at_, o, n0, g', ms, A1, cm⟩ := s
      have HZ2 := hide (show ∀ w2, Below w.heap.size w w2 → w2.cell? (ad.add (i * 7)) = some (.int .i64 th) ∧ w2.cell? ⟨(ad.add (i * 7)).block, (ad.add (i * 7)).off + 1, none⟩ = some (.int .i64 k0) ∧ w2.cell? ⟨(ad.add (i * 7)).block, (ad.add (i * 7)).off + 2, none⟩ = some (.int .i64 at_) ∧ w2.cell? ⟨(ad.add (i * 7)).block, (ad.add (i * 7)).off + 3, none⟩ = some (.int .u64 (o : Nat)) ∧ w2.cell? ⟨(ad.add (i * 7)).block, (ad.add (i * 7)).off + 4, none⟩ = some (.int .u64 (n0 : Nat)) ∧ w2.cell? ⟨(ad.add (i * 7)).block, (ad.add (i * 7)).off + 5, none⟩ = some (.int .u64 (g' : Nat)) ∧ w2.cell? ⟨(ad.add (i * 7)).block, (ad.add (i * 7)).off + 6, none⟩ = some (.slice A1 ms.length cm) from
        fun w2 hb => ⟨(HZ w2 hb).1, (HZ w2 hb).2 1 (by omega) (by omega), (HZ w2 hb).2 2 (by omega) (by omega), (HZ w2 hb).2 3 (by omega) (by omega), (HZ w2 hb).2 4 (by omega) (by omega), (HZ w2 hb).2 5 (by omega) (by omega), (HZ w2 hb).2 6 (by omega) (by omega)⟩)
      clear HZ
      have HZ := HZ2
      clear HZ2
      dsimp only at HMR DMs RMs DTs RTs HSZ
      obtain ⟨M, hM⟩ : ∃ M, ms.length = M := ⟨_, rfl⟩
      rw [hM] at HZ HMR DTs RTs HSZ
      have HTKM := hide (show ∀ x ∈ l.take (i + 1), x ∈ l.take i ∨ x.ms.length = M from fun x hx => (HTK.out x hx).imp id (fun e => by rw [e]; exact hM))
      clear HTK
      have HM := hide hM
      have hHAB := HAB.out
      have HAB2 := hide (show ∀ w2, Below w.heap.size w w2 → (ad.add (i * 7)).block < w2.heap.size from fun w2 hb => by rw [block_of_add]; have := hb.size; omega)
      clear hM hHAB
      obtain ⟨z0, z1, z2, z3, z4, z5, z6⟩ := HZ.out wr B0
      by_cases h20 : (20 : Int) < M
      · have AWr := hide (AW.out wr B0)
        go_wp2_with fail
        refine AWr.out.mono ?_
        rintro e w1 ⟨rfl, hb1⟩
        go_wp2_with fail
        go_ret
        exact ⟨rfl, B0.trans (hb1.mono B0.size)⟩
      · have hM20 : M ≤ 20 := by omega
        have hSZ := HSZ.out hM20
        go_wp2_with fail
        clear z0 z1 z2 z3 z4 z5 z6
        go_loopw [5] (DsI M w) (fun v _ => M - (intOf v).toNat)
        case atStart => exact ⟨0, rfl, by omega, B0⟩
        case round =>
          clear B0
          obtain ⟨k, rfl, hk, B0⟩ := hrel
          obtain ⟨z0, z1, z2, z3, z4, z5, z6⟩ := HZ.out wr B0
          have hbl := HAB2.out _ B0
          have hbl2 : ad.block < wr.heap.size := by have h1 := HAB.out; have := B0.size; omega
          by_cases hkM : k < M
          · have hkz : (k : Int) < (M : Int) := by omega
            obtain ⟨am, m, hA1, ham, hmk, y0, yy⟩ := (HMR.out.below B0).recAt MarkR.cells_len (by omega) hkM
            have y1 := yy 1 (by omega) (by omega)
            have y2 := yy 2 (by omega) (by omega)
            have hmm := List.mem_of_getElem? hmk
            have D1 := hide (DMs.out m hmm)
            have R1 := hide (RMs.out m hmm)
            subst hA1
            clear yy hmk hmm
            obtain ⟨mk, ma, mb⟩ := m
            replace y0 : wr.cell? (am.add (k * 3)) = some (.int .i64 mk) := y0
            replace y1 : wr.cell? ⟨(am.add (k * 3)).block, (am.add (k * 3)).off + 1, none⟩ = some (.int .u64 ma) := y1
            replace y2 : wr.cell? ⟨(am.add (k * 3)).block, (am.add (k * 3)).off + 2, none⟩ = some (.int .u64 mb) := y2
            have ham2 : am.block < wr.heap.size := by have := B0.size; omega
            have hamb : (am.add (k * 3)).block < wr.heap.size := by rw [block_of_add]; have := B0.size; omega
            have D2 := hide (show ∀ w2, Below w.heap.size w w2 → Calls Tryd.prog 5 #[.agg #[.int .i64 mk, .int .u64 ma, .int .u64 mb]] w2 fun e w' => e = .returned (.string (markT mk ma mb)) ∧ Below w2.heap.size w2 w' from D1.out)
            have R2 := hide (show ∀ w2, Calls Tryd.prog 6 #[.agg #[.int .i64 mk, .int .u64 ma, .int .u64 mb]] w2 fun e w' => e = .returned (.string (markT mk ma mb)) ∧ Below w2.heap.size w2 w' from R1.out)
            clear D1 R1
            generalize markT mk ma mb = mt at *
            have hPB := hide (fun (x : Bel wr) => B0.trans ((past_below wr x).mono B0.size))
            go_wp2_with fail
            refine wp_region_past (by kernel_rfl) (by kernel_rfl) ?_
            repeat (quiet_step ((first | (go_at_call 5; exact calls_past (D2.out _ (hPB.out _))) | (go_at_call 6; exact calls_past (R2.out _)))))
            refine wpQuiet_nil ?_
            intro _ hw'
            obtain ⟨y, hw''⟩ := hw'
            subst hw''
            have hy := past_below wr y
            go_wp2_with fail
            go_roundw
            case rel => exact ⟨k + 1, by go_num, by omega, B0.trans (hy.mono B0.size)⟩
            case measure => simp [intOf]; omega
          · obtain rfl : k = M := by omega
            have D2 := hide (show ∀ w2, Below w.heap.size w w2 → Calls Tryd.prog 7 #[.agg #[.int .i64 th, .int .i64 k0, .int .i64 at_, .int .u64 (o : Nat), .int .u64 (n0 : Nat), .int .u64 (g' : Nat), .slice A1 k cm]] w2 fun e w' => e = .returned (.string tx) ∧ Below w2.heap.size w2 w' from by have := DTs.out hM20; rw [← HM.out]; exact this)
            have R2 := hide (show ∀ w2, Below w.heap.size w w2 → Calls Tryd.prog 8 #[.agg #[.int .i64 th, .int .i64 k0, .int .i64 at_, .int .u64 (o : Nat), .int .u64 (n0 : Nat), .int .u64 (g' : Nat), .slice A1 k cm]] w2 fun e w' => e = .returned (.string tx) ∧ Below w2.heap.size w2 w' from by have := RTs.out hM20; rw [← HM.out]; exact this)
            have hPB := hide (fun (x : Bel wr) => B0.trans ((past_below wr x).mono B0.size))
            go_wp2_with fail
            refine wp_region_past (by kernel_rfl) (by kernel_rfl) ?_
            repeat (quiet_step ((first | (go_at_call 7; exact calls_past (D2.out _ (hPB.out _))) | (go_at_call 8; exact calls_past (R2.out _ (hPB.out _))))))
            refine wpQuiet_nil ?_
            intro _ hw'
            obtain ⟨y, hw''⟩ := hw'
            subst hw''
            have hy := past_below wr y
            have B1 := B0.trans (hy.mono B0.size)
            generalize past wr y = w5 at *
            clear z0 z1 z2 z3 z4 z5 z6
            obtain ⟨z0, z1, z2, z3, z4, z5, z6⟩ := HZ.out _ B1
            go_wp2_with fail
            refine (R2.out _ B1).mono ?_
            rintro e w6 ⟨rfl, hb1⟩
            replace B1 := B1.trans (hb1.mono B1.size)
            clear hb1 z0 z1 z2 z3 z4 z5 z6
            go_wp2_with fail
            go_roundw
            case rel => exact ⟨i + 1, by go_num, by omega, by rw [HSN.out]; rfl, fun x hx => (HTKM.out x hx).elim (fun h => HSM.out x h) (fun h => by omega), B1⟩
            case measure => simp [intOf]; omega
    · obtain rfl : i = n := by omega
      have htk : l.take i = l := List.take_of_length_le (by rw [HL.out]; exact Nat.le_refl _)
      have hall := HSM.out
      rw [htk] at hall ⊢
      have D := hide (DS.out hall wr B0)
      generalize linesT (l.map StepR.text) = Q at *
      have AW2 := hide (fun w2 (hb : Below wr.heap.size wr w2) => AW.out w2 (B0.trans (hb.mono B0.size)))
      clear hall htk DS
      go_wp2_with fail
      refine D.out.mono ?_
      rintro e w1 ⟨rfl, hb1⟩
      go_wp2_with fail
      refine (AW2.out _ hb1).mono ?_
      rintro e w2 ⟨rfl, hb2⟩
      go_wp2_with fail
      go_ret
      exact ⟨rfl, B0.trans ((hb1.trans (hb2.mono hb1.size)).mono B0.size)⟩
end Go.Proofs.YtlnckjemfabckaaDoor

/-
  Readings of steps with their marks.
-/
namespace Go.Proofs.YtlnckjemfabckaaDoor
open Go.ChangeShapes Go.WideShapes Go.ChangeAt Go.RowKit Go.Deep

section
variable {H : Type} {enc : TypeId × Value → H} {w : World} {spare : Nat → Bool} {held : Bool} {base : Nat}
theorem cof_int : Tryd.prog.cellsOf 3 = 1 := by kernel_rfl
theorem cof_u64 : Tryd.prog.cellsOf 24 = 1 := by kernel_rfl
theorem cof_ask : Tryd.prog.cellsOf 26 = 4 := by kernel_rfl
theorem cof_mark : Tryd.prog.cellsOf 32 = 3 := by kernel_rfl
theorem cof_step : Tryd.prog.cellsOf 29 = 7 := by kernel_rfl
theorem cof_marks : Tryd.prog.cellsOf 27 = 1 := by kernel_rfl
theorem in_u64 {n : Nat} {v : Value} {y : DataW H × List MemPlace} (h : DataW.trod enc Tryd.prog w base spare held n 24 [v] = some y) : ∃ x : Nat, v = .int .u64 (x : Nat) ∧ x < 18446744073709551616 := by
  obtain ⟨x, h1, _, h3⟩ := DataW.trod_int Tryd.underlying24 h
  simp at h1
  obtain ⟨a, b⟩ := W64.of_wf h3
  obtain ⟨m, rfl⟩ := Int.eq_ofNat_of_zero_le a
  exact ⟨m, h1, by omega⟩
theorem in_i64 {n : Nat} {v : Value} {y : DataW H × List MemPlace} (h : DataW.trod enc Tryd.prog w base spare held n 3 [v] = some y) : ∃ x : Int, v = .int .i64 x ∧ I64 x := by
  obtain ⟨x, h1, _, h3⟩ := DataW.trod_int Tryd.underlying3 h
  simp at h1
  exact ⟨x, h1, I64.of_wf h3⟩
set_option maxRecDepth 100000 in
theorem in_mark {n : Nat} {cs : List Value} {y : DataW H × List MemPlace} (h : DataW.trod enc Tryd.prog w base spare held n 32 cs = some y) (hl : cs.length = 3) : ∃ m : MarkR, cs = MarkR.cells m ∧ MarkOk m := by
  match cs, hl with
  | [x0, x1, x2], _ =>
    obtain ⟨n0, y0, g0, _⟩ := fldT Tryd.underlying32 h 0 0 1 3 rfl cof_int
    obtain ⟨n1, y1, g1, _⟩ := fldT Tryd.underlying32 h 1 1 1 24 rfl cof_u64
    obtain ⟨n2, y2, g2, _⟩ := fldT Tryd.underlying32 h 2 2 1 24 rfl cof_u64

    obtain ⟨a, rfl, ha⟩ := in_i64 g0
    obtain ⟨b, rfl, hb⟩ := in_u64 g1
    obtain ⟨c, rfl, hc⟩ := in_u64 g2
    exact ⟨(a, b, c), rfl, ha, hb, hc⟩
set_option maxRecDepth 100000 in
theorem in_ask {n : Nat} {cs : List Value} {y : DataW H × List MemPlace} (h : DataW.trod enc Tryd.prog w base spare held n 26 cs = some y) (hl : cs.length = 4) :
    ∃ (k a : Int) (o m : Nat), cs = [.int .i64 k, .int .i64 a, .int .u64 (o : Nat), .int .u64 (m : Nat)] ∧ I64 k ∧ I64 a ∧ o < 18446744073709551616 ∧ m < 18446744073709551616 := by
  match cs, hl with
  | [x0, x1, x2, x3], _ =>
    obtain ⟨n0, y0, g0, _⟩ := fldT Tryd.underlying26 h 0 0 1 3 rfl cof_int
    obtain ⟨n1, y1, g1, _⟩ := fldT Tryd.underlying26 h 1 1 1 3 rfl cof_int
    obtain ⟨n2, y2, g2, _⟩ := fldT Tryd.underlying26 h 2 2 1 24 rfl cof_u64
    obtain ⟨n3, y3, g3, _⟩ := fldT Tryd.underlying26 h 3 3 1 24 rfl cof_u64

    obtain ⟨a, rfl, ha⟩ := in_i64 g0
    obtain ⟨b, rfl, hb⟩ := in_i64 g1
    obtain ⟨c, rfl, hc⟩ := in_u64 g2
    obtain ⟨d, rfl, hd⟩ := in_u64 g3
    exact ⟨a, b, c, d, rfl, ha, hb, hc, hd⟩
set_option maxRecDepth 100000 in
theorem in_step (hsp : ∀ a, spare a = true) {n : Nat} {cs : List Value} {y : DataW H × List MemPlace} (h : DataW.trod enc Tryd.prog w base spare held n 29 cs = some y) (hlt : ∀ p ∈ y.2, p.block < w.heap.size) (hl : cs.length = 7) :
    ∃ s : StepR, cs = StepR.cells s ∧ StepOk w s := by
  match cs, hl with
  | [x0, x1, x2, x3, x4, x5, x6], _ =>
    obtain ⟨n0, y0, g0, _⟩ := fldT Tryd.underlying29 h 0 0 1 3 rfl cof_int
    obtain ⟨n1, y1, g1, _⟩ := fldT Tryd.underlying29 h 1 1 4 26 rfl cof_ask
    obtain ⟨n2, y2, g2, _⟩ := fldT Tryd.underlying29 h 2 5 1 24 rfl cof_u64
    obtain ⟨n3, y3, g3, p3⟩ := fldT Tryd.underlying29 h 3 6 1 27 rfl cof_marks

    obtain ⟨a, rfl, ha⟩ := in_i64 g0
    obtain ⟨k, b, o, m, he, hk, hb, ho, hm⟩ := in_ask g1 rfl
    simp at he
    obtain ⟨rfl, rfl, rfl, rfl⟩ := he
    obtain ⟨g, rfl, hg⟩ := in_u64 g2
    obtain ⟨A, len, cap, l, hcs, _, _, hll, hr, hq⟩ := open_recs_in (B := w.heap.size) MarkR.cells MarkOk Tryd.underlying27 cof_mark (by omega) g3 (fun p hp => hlt p (p3 p hp)) hsp (fun n cs' y hy _ hl => in_mark hy hl)
    simp at hcs
    subst hcs
    subst hll
    exact ⟨⟨a, k, b, o, m, g, l, A, cap⟩, rfl, ha, hk, hb, ho, hm, hg, hq, hr⟩
set_option maxRecDepth 100000 in
theorem open_steps {b0 : Nat} {v : Value} {d : DataW H} {ps : List MemPlace}
    (hv : Value.okWide Tryd.prog w .any b0 22 v) (h : DataW.Trod enc Tryd.prog w base spare held 22 v d ps) (hlt : ∀ p ∈ ps, p.block < w.heap.size) (hsp : ∀ a, spare a = true) :
    ∃ (A : Option Addr) (len cap : Nat) (l : List StepR), v = .slice A len cap ∧ len ≤ cap ∧ cap ≤ maxLen ∧ l.length = len ∧ Reads w w.heap.size 7 A len (l.flatMap StepR.cells) ∧ ∀ s ∈ l, StepOk w s :=
  open_recs StepR.cells (StepOk w) Tryd.underlying22 cof_step (by omega) hv h hlt hsp (fun _ _ _ hy hp hl => in_step hsp hy hp hl)
end
end Go.Proofs.YtlnckjemfabckaaDoor

