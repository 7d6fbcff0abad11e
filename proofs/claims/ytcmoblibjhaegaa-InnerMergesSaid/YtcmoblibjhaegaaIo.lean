/-
  inner.Of: the inner node of children and keys.
-/
import Derived.Test.YtcmoblibjhaegaaIq
namespace Go.Proofs.Ytcmoblibjhaegaa
open Go.RowKit

set_option maxRecDepth 100000 in
set_option maxHeartbeats 4000000 in
theorem of1_yes (kv vv : Value) (ks vs : List Int) (g5 g6 g4 : Nat) (w : World) (hl : ks.length ≤ 1000000) (b5 : Blk w g5 25 #[kv]) (b6 : Blk w g6 25 #[vv]) (bo : Blk w g4 27 #[.bool false, .slice none 0 0, .slice none 0 0, .int .u64 0]) (hk : Sl w w.heap.size kv ks) (hv : Sl w w.heap.size vv vs) (hr : rightI true ks vs = true) :
    Calls Try.prog 29 #[.pointer (some ⟨g5, 0, none⟩), .pointer (some ⟨g6, 0, none⟩), .pointer (some ⟨g4, 0, none⟩)] w fun e w' => e = .returned (.tuple #[]) ∧ Part [g4] w w' ∧ Blk w' g4 27 #[.bool true, kv, vv, .int .u64 0] := by
  have Nn := hide (node_yes kv vv ks vs 0 w hl hk hv hr)
  obtain ⟨A, c, rfl, _⟩ := hk
  obtain ⟨A', c', rfl, _⟩ := hv
  clear hl hr
  generalize ks.length = n at *
  generalize vs.length = m at *
  have m5 := fun i => b5.cell i
  have m6 := fun i => b6.cell i
  have mo := fun i => bo.cell i
  go_enter Try.func29, Try.ntmps29
  go_wp2_with fail
  refine Nn.out.mono ?_
  rintro e w1 ⟨rfl, hb1⟩
  replace bo := bo.below hb1 bo.lt
  clear m5 m6 mo b5 b6
  have mo := fun i => bo.cell i
  have zo := fun i => bo.frozen i
  go_wp2_with fail
  go_end0
  exact ⟨rfl, (Part.of_below hb1).setN (by simp) _ _ _ _, bo.setN _ _ _ _⟩
set_option maxRecDepth 100000 in
set_option maxHeartbeats 4000000 in
theorem of1_no (kv vv : Value) (ks vs : List Int) (g5 g6 g4 : Nat) (w : World) (hl : ks.length ≤ 1000000) (b5 : Blk w g5 25 #[kv]) (b6 : Blk w g6 25 #[vv]) (bo : Blk w g4 27 #[.bool false, .slice none 0 0, .slice none 0 0, .int .u64 0]) (hk : Sl w w.heap.size kv ks) (hv : Sl w w.heap.size vv vs) (hr : rightI true ks vs = false) :
    Calls Try.prog 29 #[.pointer (some ⟨g5, 0, none⟩), .pointer (some ⟨g6, 0, none⟩), .pointer (some ⟨g4, 0, none⟩)] w fun e w' => e = .panicked wrongP ∧ Below w.heap.size w w' := by
  have Nn := hide (node_no kv vv ks vs 0 w hl hk hv hr)
  obtain ⟨A, c, rfl, _⟩ := hk
  obtain ⟨A', c', rfl, _⟩ := hv
  clear hl hr
  generalize ks.length = n at *
  generalize vs.length = m at *
  have m5 := fun i => b5.cell i
  have m6 := fun i => b6.cell i
  have mo := fun i => bo.cell i
  go_enter Try.func29, Try.ntmps29
  go_wp2_with fail
  refine Nn.out.mono ?_
  rintro e w1 ⟨rfl, hb1⟩
  go_wp2_with fail
  exact ⟨rfl, rfl, hb1⟩
def IofIn (g5 g6 lo : Nat) (first : Int) (l : List (Int × Int)) (w : World) (i : Value) (wr : World) : Prop :=
  ∃ (k m : Nat) (A1 : Option Addr) (c1 : Nat) (A2 : Option Addr) (c2 : Nat), m = k + 1 ∧ i = .int .i64 k ∧ k ≤ l.length ∧ Blk wr g5 25 #[.slice A1 k c1] ∧ Blk wr g6 25 #[.slice A2 m c2] ∧ wr.ownsRow lo 22 1 (.slice A1 k c1) k (ints .u64 (fstL (l.take k))) ∧ wr.ownsRow lo 22 1 (.slice A2 m c2) m (ints .u64 (first :: sndL (l.take k))) ∧ Apart (.slice A1 k c1) (.slice A2 m c2) ∧ lo ≤ wr.heap.size ∧ Below w.heap.size w wr
set_option maxRecDepth 100000 in
set_option maxHeartbeats 4000000 in
theorem iof_any (first : Int) (A : Option Addr) (n c : Nat) (l : List (Int × Int)) (w : World) (hn : n ≤ 1000) (hr : Reads w w.heap.size 2 A n (rec2 l)) :
    Calls Try.prog 11 #[.int .u64 first, .slice A n c] w fun e w' => (∃ u, e = .returned u ∧ NdO w' w.heap.size u (riseB (fstL l)) (if riseB (fstL l) = true then fstL l else []) (if riseB (fstL l) = true then first :: sndL l else []) 0) ∧ Below w.heap.size w w' := by
  obtain ⟨i0, hi0, hz0, hs0, hb0⟩ := info_parts infoU
  have hln := hr.lenPair
  have HR := hide hr
  have HLN := hide hln
  clear hr hln
  have hmf : ∀ (fn : Fn) (first cap : Array Value) (w : World), (Instr.makeFunc fn first cap).run Try.prog w = .ok (.func fn first cap) w := fun _ _ _ _ => rfl
  have br := (((Blk.new w 27 #[.bool false, .slice none 0 0, .slice none 0 0, .int .u64 0]).alloc (.cells #[.int .u64 first] 22)).alloc (.cells #[.slice none 0 0] 25)).alloc (.cells #[.slice (some ⟨w.heap.size + 1, 0, none⟩) 1 1] 25)
  have hb := ((((Below.refl w.heap.size w).alloc (Nat.le_refl _) (.cells #[.bool false, .slice none 0 0, .slice none 0 0, .int .u64 0] 27)).alloc (by simp only [World.size_alloc]; omega) (.cells #[.int .u64 first] 22)).alloc (by simp only [World.size_alloc]; omega) (.cells #[.slice none 0 0] 25)).alloc (by simp only [World.size_alloc]; omega) (.cells #[.slice (some ⟨w.heap.size + 1, 0, none⟩) 1 1] 25)
  have h2 := ((World.ownsRow_lit (e := 22) (base := w.heap.size + 1) (size := 1) (w.alloc (.cells #[.bool false, .slice none 0 0, .slice none 0 0, .int .u64 0] 27)) #[.int .u64 first] 1 (by simp only [World.size_alloc]; omega) (by decide) rfl).alloc (.cells #[.slice none 0 0] 25)).alloc (.cells #[.slice (some ⟨w.heap.size + 1, 0, none⟩) 1 1] 25)
  have b5 := (Blk.new ((w.alloc (.cells #[.bool false, .slice none 0 0, .slice none 0 0, .int .u64 0] 27)).alloc (.cells #[.int .u64 first] 22)) 25 #[.slice none 0 0]).alloc (.cells #[.slice (some ⟨w.heap.size + 1, 0, none⟩) 1 1] 25)
  have b6 := Blk.new (((w.alloc (.cells #[.bool false, .slice none 0 0, .slice none 0 0, .int .u64 0] 27)).alloc (.cells #[.int .u64 first] 22)).alloc (.cells #[.slice none 0 0] 25)) 25 #[.slice (some ⟨w.heap.size + 1, 0, none⟩) 1 1]
  simp only [World.size_alloc] at b5 b6 h2
  generalize hKK : (if riseB (fstL l) = true then fstL l else []) = k'
  generalize hVV : (if riseB (fstL l) = true then first :: sndL l else []) = v'
  generalize hBB : riseB (fstL l) = rb
  have HKK := hide hKK
  have HVV := hide hVV
  have HBB := hide hBB
  clear hKK hVV hBB
  go_enter Try.func11, Try.ntmps11
  go_wp2_with fail
  generalize (((w.alloc (.cells #[.bool false, .slice none 0 0, .slice none 0 0, .int .u64 0] 27)).alloc (.cells #[.int .u64 first] 22)).alloc (.cells #[.slice none 0 0] 25)).alloc (.cells #[.slice (some ⟨w.heap.size + 1, 0, none⟩) 1 1] 25) = w2 at *
  obtain ⟨g5, e5⟩ : ∃ g, g = w.heap.size + 1 + 1 := ⟨_, rfl⟩
  obtain ⟨g6, e6⟩ : ∃ g, g = w.heap.size + 1 + 1 + 1 := ⟨_, rfl⟩
  obtain ⟨lo, hlo⟩ : ∃ lo, lo = w.heap.size + 1 := ⟨_, rfl⟩
  have HB5 := hide (show w.heap.size ≤ g5 by omega)
  have HB6 := hide (show w.heap.size ≤ g6 by omega)
  have H56 := hide (show g5 ≠ g6 by omega)
  have H65 := hide (show g6 ≠ g5 by omega)
  have HR5 := hide (show w.heap.size ≠ g5 by omega)
  have HR6 := hide (show w.heap.size ≠ g6 by omega)
  have HLB := hide (show w.heap.size ≤ lo by omega)
  have HL := hide (show lo ≤ w2.heap.size by have := b6.lt; omega)
  rw [← e6, ← e5]
  rw [← e5] at b5
  rw [← e6] at b6
  have hone : (Value.slice (some ⟨w.heap.size + 1, 0, none⟩) 1 1) = .slice (some ⟨lo, 0, none⟩) 1 1 := by rw [hlo]
  rw [hone] at b6 h2
  rw [hone]
  clear hone
  rw [← hlo] at h2
  clear e5 e6 hlo
  go_loopw [13] (fun i wr => IofIn g5 g6 lo first l w i wr ∧ Blk wr w.heap.size 27 #[.bool false, .slice none 0 0, .slice none 0 0, .int .u64 0]) (fun i _ => n - (intOf i).toNat)
  case atStart => exact ⟨⟨0, 1, none, 0, _, 1, rfl, rfl, by omega, b5, b6, World.ownsRow_nil _ _ _ _, h2, Apart.nil _, HL.out, hb⟩, br⟩
  case round =>
    clear b5 b6 h2 hb HL br
    obtain ⟨⟨k, m, A1, c1, A2, c2, hmk, rfl, hk, b5, b6, h1, h2, ha, hL, hb⟩, br⟩ := hrel
    have HMK := hide hmk
    have HL := hide hL
    by_cases hlt : k < n
    · obtain ⟨a, rfl, hkl, z1, z2⟩ := (HR.out.below hb).pair hlt
      have HX := hide (fstL_take l k hkl)
      have HY := hide (sndL_take l k hkl)
      generalize (l[k]).1 = x at *
      generalize (l[k]).2 = y at *
      have hkz : (k : Int) < (n : Int) := by omega
      have HN := hide (show k ≤ 4294967296 by omega)
      have HM := hide (show m ≤ 4294967296 by omega)
      clear hL hmk
      have bp := Blk.new wr 29 #[.int .u64 x, .int .u64 y]
      replace b5 := b5.alloc (.cells #[.int .u64 x, .int .u64 y] 29)
      replace b6 := b6.alloc (.cells #[.int .u64 x, .int .u64 y] 29)
      replace br := br.alloc (.cells #[.int .u64 x, .int .u64 y] 29)
      replace h1 := h1.alloc (.cells #[.int .u64 x, .int .u64 y] 29)
      replace h2 := h2.alloc (.cells #[.int .u64 x, .int .u64 y] 29)
      replace hb := hb.alloc hb.size (.cells #[.int .u64 x, .int .u64 y] 29)
      replace HL := hide (Nat.le_trans HL.out (show wr.heap.size ≤ (wr.alloc (.cells #[.int .u64 x, .int .u64 y] 29)).heap.size by rw [World.size_alloc]; exact Nat.le_succ _))
      go_wp2_with fail
      generalize wr.alloc (.cells #[.int .u64 x, .int .u64 y] 29) = wa at *
      generalize wr.heap.size = gp at *
      clear z1 z2
      replace b5 := b5.drew
      replace b6 := b6.drew
      replace bp := bp.drew
      replace br := br.drew
      replace h1 := h1.drew
      replace h2 := h2.drew
      replace hb := hb.drew
      replace HL := hide (show lo ≤ wa.drew.heap.size from HL.out)
      refine wp_region_heldZ [10, 11] (fun w' => (w'.cell? ⟨g5, 0, none⟩ = some (.slice A1 k c1) ∧ w'.cell? ⟨g6, 0, none⟩ = some (.slice A2 m c2)) ∧ (w'.cell? ⟨gp, 0, none⟩ = some (.int .u64 x) ∧ w'.cell? ⟨gp, 1, none⟩ = some (.int .u64 y))) (by kernel_rfl) (by exact ⟨⟨b5.cell 0, b6.cell 0⟩, cellsP bp⟩) (fun hHeld => ?_)
      generalize wa.drew = wb at *
      refine' wpAnyZ_takeA (i := 0) (v := ?_) (opAt rfl) (by kernel_rfl) (by kernel_rfl) (by kernel_rfl) (by kernel_rfl) (fun _ _ _ h => h) (by assumption) (by rfl) (fun w hSw => ?_) ?_
      rotate_left
      · (try dsimp only at hSw); go_simp; (try with_reducible rfl)
      try simp only [Act.put, List.setIfInBounds_toArray, List.set_cons_zero, List.set_cons_succ]
      refine' wpAnyZ_takeA (i := 1) (v := ?_) (opAt rfl) (by kernel_rfl) (by kernel_rfl) (by kernel_rfl) (by kernel_rfl) (fun _ _ _ h => h) (by assumption) (by rfl) (fun w hSw => ?_) ?_
      rotate_left
      · (try dsimp only at hSw); go_simp; (try with_reducible rfl)
      try simp only [Act.put, List.setIfInBounds_toArray, List.set_cons_zero, List.set_cons_succ]
      refine' wpAnyZ_takeA (i := 2) (v := ?_) (opAt rfl) (by kernel_rfl) (by kernel_rfl) (by kernel_rfl) (by kernel_rfl) (fun _ _ _ h => h) (by assumption) (by rfl) (fun w hSw => ?_) ?_
      rotate_left
      · (try dsimp only at hSw); go_simp; (try with_reducible rfl)
      try simp only [Act.put, List.setIfInBounds_toArray, List.set_cons_zero, List.set_cons_succ]
      refine' wpAnyZ_takeA (i := 5) (v := ?_) (opAt rfl) (by kernel_rfl) (by kernel_rfl) (by kernel_rfl) (by kernel_rfl) (fun _ _ _ h => h) (by assumption) (by rfl) (fun w hSw => ?_) ?_
      rotate_left
      · (try dsimp only at hSw); go_simp; (try with_reducible rfl)
      try simp only [Act.put, List.setIfInBounds_toArray, List.set_cons_zero, List.set_cons_succ]
      refine' wpAnyZ_takeA (i := 6) (v := ?_) (opAt rfl) (by kernel_rfl) (by kernel_rfl) (by kernel_rfl) (by kernel_rfl) (fun _ _ _ h => h) (by assumption) (by rfl) (fun w hSw => ?_) ?_
      rotate_left
      · (try dsimp only at hSw); go_simp; (try with_reducible rfl)
      try simp only [Act.put, List.setIfInBounds_toArray, List.set_cons_zero, List.set_cons_succ]
      refine' wpAnyZ_takeA (i := 7) (v := ?_) (opAt rfl) (by kernel_rfl) (by kernel_rfl) (by kernel_rfl) (by kernel_rfl) (fun _ _ _ h => h) (by assumption) (by rfl) (fun w hSw => ?_) ?_
      rotate_left
      · (try dsimp only at hSw); go_simp; (try with_reducible rfl)
      try simp only [Act.put, List.setIfInBounds_toArray, List.set_cons_zero, List.set_cons_succ]
      refine wpAnyZ_ready (rs := [3, 8]) (by kernel_rfl) (by simp) ?_
      refine AllReadyZ.cons (opAt rfl) (fun K hK => ?_) ?_
      · skip
        go_simp
        replace b5 := b5.alloc (.cells #[.int .u64 x] 22)
        replace b6 := b6.alloc (.cells #[.int .u64 x] 22)
        replace bp := bp.alloc (.cells #[.int .u64 x] 22)
        replace br := br.alloc (.cells #[.int .u64 x] 22)
        replace h1 := h1.alloc (.cells #[.int .u64 x] 22)
        replace h2 := h2.alloc (.cells #[.int .u64 x] 22)
        replace hb := hb.alloc hb.size (.cells #[.int .u64 x] 22)
        have bk := Blk.new wb 22 #[.int .u64 x]
        replace HL := hide (Nat.le_trans HL.out (show wb.heap.size ≤ (wb.alloc (.cells #[.int .u64 x] 22)).heap.size by rw [World.size_alloc]; exact Nat.le_succ _))
        generalize wb.alloc (.cells #[.int .u64 x] 22) = w3 at *
        refine hK.out _ _ (by exact ⟨⟨b5.cell 0, b6.cell 0⟩, cellsP bp⟩) (fun hHeld => ?_)
        clear hK K
        try simp only [Act.put, List.setIfInBounds_toArray, List.set_cons_zero, List.set_cons_succ]
        refine wpAnyZ_ready (rs := [4, 8]) (by kernel_rfl) (by simp) ?_
        refine AllReadyZ.cons (opAt rfl) (fun K hK => ?_) ?_
        · skip
          refine step_append_one (by rfl) (.tmp 17) (.tmp 20) _ (by rfl) lo 22 i0 _ 1 8 Try.underlying25 hi0 hz0 hs0 hb0 rfl (by decide) (by decide) _ k _ (by rfl) h1 _ #[.int .u64 x] (by rfl) bk rfl rfl HN.out HL.out ?_
          intro A3 c3 w4 h3 hg_ hat_
          replace b5 := b5.grown hg_ (own_blk_ne h1 b5 (by decide)).symm
          replace b6 := b6.grown hg_ (own_blk_ne h1 b6 (by decide)).symm
          replace bp := bp.grown hg_ (own_blk_ne h1 bp (by decide)).symm
          replace br := br.grown hg_ (own_blk_ne h1 br (by decide)).symm
          replace hb := below_appended hb h1 hg_ HLB.out (Nat.le_trans HLB.out HL.out)
          obtain ⟨h2', ha'⟩ := push_row (v' := .slice A3 (k + 1) c3) h2 ha hg_ hat_
          replace h2 := h2'
          replace ha := ha'
          clear h2' ha'
          replace HL := hide (Nat.le_trans HL.out hg_.size)
          clear h1 hg_ hat_ bk
          refine hK.out _ _ (by exact ⟨⟨b5.cell 0, b6.cell 0⟩, cellsP bp⟩) (fun hHeld => ?_)
          clear hK K
          try simp only [Act.put, List.setIfInBounds_toArray, List.set_cons_zero, List.set_cons_succ]
          refine wpAnyZ_ready (rs := [8]) (by kernel_rfl) (by simp) ?_
          refine AllReadyZ.cons (opAt rfl) (fun K hK => ?_) ?_
          · skip
            go_simp
            replace b5 := b5.alloc (.cells #[.int .u64 y] 22)
            replace b6 := b6.alloc (.cells #[.int .u64 y] 22)
            replace bp := bp.alloc (.cells #[.int .u64 y] 22)
            replace br := br.alloc (.cells #[.int .u64 y] 22)
            replace h3 := h3.alloc (.cells #[.int .u64 y] 22)
            replace h2 := h2.alloc (.cells #[.int .u64 y] 22)
            replace hb := hb.alloc hb.size (.cells #[.int .u64 y] 22)
            have bv := Blk.new w4 22 #[.int .u64 y]
            replace HL := hide (Nat.le_trans HL.out (show w4.heap.size ≤ (w4.alloc (.cells #[.int .u64 y] 22)).heap.size by rw [World.size_alloc]; exact Nat.le_succ _))
            generalize w4.alloc (.cells #[.int .u64 y] 22) = w5 at *
            refine hK.out _ _ (by exact ⟨⟨b5.cell 0, b6.cell 0⟩, cellsP bp⟩) (fun hHeld => ?_)
            clear hK K
            try simp only [Act.put, List.setIfInBounds_toArray, List.set_cons_zero, List.set_cons_succ]
            refine wpAnyZ_ready (rs := [9]) (by kernel_rfl) (by simp) ?_
            refine AllReadyZ.cons (opAt rfl) (fun K hK => ?_) ?_
            · skip
              refine step_append_one (by rfl) (.tmp 22) (.tmp 25) _ (by rfl) lo 22 i0 _ 1 8 Try.underlying25 hi0 hz0 hs0 hb0 rfl (by decide) (by decide) _ m _ (by rfl) h2 _ #[.int .u64 y] (by rfl) bv rfl rfl HM.out HL.out ?_
              intro A4 c4 w7 h4 hg_ hat_
              replace b5 := b5.grown hg_ (own_blk_ne h2 b5 (by decide)).symm
              replace b6 := b6.grown hg_ (own_blk_ne h2 b6 (by decide)).symm
              replace bp := bp.grown hg_ (own_blk_ne h2 bp (by decide)).symm
              replace br := br.grown hg_ (own_blk_ne h2 br (by decide)).symm
              replace hb := below_appended hb h2 hg_ HLB.out (Nat.le_trans HLB.out HL.out)
              obtain ⟨h3', ha'⟩ := push_row (v' := .slice A4 (m + 1) c4) h3 ha.symm hg_ hat_
              replace h3 := h3'
              replace ha := ha'.symm
              clear h3' ha'
              replace HL := hide (Nat.le_trans HL.out hg_.size)
              clear h2 hg_ hat_ bv
              refine hK.out _ _ (by exact ⟨⟨b5.cell 0, b6.cell 0⟩, cellsP bp⟩) (fun hHeld => ?_)
              clear hK K
              try simp only [Act.put, List.setIfInBounds_toArray, List.set_cons_zero, List.set_cons_succ]
              have z5 := fun i => b5.frozen i
              have z6 := fun i => b6.frozen i
              refine wpAnyZ_ready (rs := [10]) (by kernel_rfl) (by simp) ?_
              refine AllReadyZ.last (opAt rfl) (by kernel_rfl) (fun K hK => ?_) ?_
              · skip
                go_simp
                refine hK.out _ _ ?_
                clear hK K
                try simp only [Act.put, List.setIfInBounds_toArray, List.set_cons_zero, List.set_cons_succ]
                have z6' := fun i => (b6.far (p := ⟨g5, 0, none⟩) H65.out (.slice A3 (k + 1) c3)).frozen i
                have m6' := fun i => (b6.far (p := ⟨g5, 0, none⟩) H65.out (.slice A3 (k + 1) c3)).cell i
                refine wpAnyZ_ready (rs := [11]) (by kernel_rfl) (by simp) ?_
                refine AllReadyZ.last (opAt rfl) (by kernel_rfl) (fun K hK => ?_) ?_
                · skip
                  go_simp
                  refine hK.out _ _ ?_
                  clear hK K
                  try simp only [Act.put, List.setIfInBounds_toArray, List.set_cons_zero, List.set_cons_succ]
                  refine wpAnyZ_done (by kernel_rfl) ?_ _
                  replace h3 := own_set_blk (own_set_blk h3 b5 (by decide) 0 (.slice A3 (k + 1) c3)) (b6.far (p := ⟨g5, 0, none⟩) H65.out (.slice A3 (k + 1) c3)) (by decide) 0 (.slice A4 (m + 1) c4)
                  replace h4 := own_set_blk (own_set_blk h4 b5 (by decide) 0 (.slice A3 (k + 1) c3)) (b6.far (p := ⟨g5, 0, none⟩) H65.out (.slice A3 (k + 1) c3)) (by decide) 0 (.slice A4 (m + 1) c4)
                  replace b5 := (b5.set1 (.slice A3 (k + 1) c3)).far (p := ⟨g6, 0, none⟩) H56.out (.slice A4 (m + 1) c4)
                  replace b6 := (b6.far (p := ⟨g5, 0, none⟩) H65.out (.slice A3 (k + 1) c3)).set1 (.slice A4 (m + 1) c4)
                  replace br := (br.far (p := ⟨g5, 0, none⟩) HR5.out (.slice A3 (k + 1) c3)).far (p := ⟨g6, 0, none⟩) HR6.out (.slice A4 (m + 1) c4)
                  replace hb := (hb.setCell (p := ⟨g5, 0, none⟩) HB5.out (.slice A3 (k + 1) c3)).setCell (p := ⟨g6, 0, none⟩) HB6.out (.slice A4 (m + 1) c4)
                  replace HL := hide (show lo ≤ ((w7.setCell ⟨g5, 0, none⟩ (.slice A3 (k + 1) c3)).setCell ⟨g6, 0, none⟩ (.slice A4 (m + 1) c4)).heap.size by rw [size_set, size_set]; exact HL.out)
                  clear z5 z6 z6' m6' bp
                  generalize (w7.setCell ⟨g5, 0, none⟩ (.slice A3 (k + 1) c3)).setCell ⟨g6, 0, none⟩ (.slice A4 (m + 1) c4) = w9 at *
                  go_wp2_with fail
                  go_roundw
                  case measure => simp [intOf]; omega
                  case rel => exact ⟨⟨k + 1, m + 1, A3, c3, A4, c4, by rw [HMK.out], by go_num, by omega, b5, b6, by rw [HX.out, ints_append]; exact h3, by rw [HY.out, ← List.cons_append, ints_append]; exact h4, ha, HL.out, hb⟩, br⟩
                exact AllReadyZ.nil
              exact AllReadyZ.nil
            exact AllReadyZ.nil
          exact AllReadyZ.nil
        refine AllReadyZ.cons (opAt rfl) (fun K hK => ?_) ?_
        · skip
          go_simp
          replace b5 := b5.alloc (.cells #[.int .u64 y] 22)
          replace b6 := b6.alloc (.cells #[.int .u64 y] 22)
          replace bp := bp.alloc (.cells #[.int .u64 y] 22)
          replace br := br.alloc (.cells #[.int .u64 y] 22)
          replace bk := bk.alloc (.cells #[.int .u64 y] 22)
          have HBL := hide (own_old h1 (Nat.le_refl w3.heap.size))
          replace h1 := h1.alloc (.cells #[.int .u64 y] 22)
          replace h2 := h2.alloc (.cells #[.int .u64 y] 22)
          replace hb := hb.alloc hb.size (.cells #[.int .u64 y] 22)
          have bv := Blk.new w3 22 #[.int .u64 y]
          replace HL := hide (Nat.le_trans HL.out (show w3.heap.size ≤ (w3.alloc (.cells #[.int .u64 y] 22)).heap.size by rw [World.size_alloc]; exact Nat.le_succ _))
          generalize w3.alloc (.cells #[.int .u64 y] 22) = w4 at *
          refine hK.out _ _ (by exact ⟨⟨b5.cell 0, b6.cell 0⟩, cellsP bp⟩) (fun hHeld => ?_)
          clear hK K
          try simp only [Act.put, List.setIfInBounds_toArray, List.set_cons_zero, List.set_cons_succ]
          refine wpAnyZ_ready (rs := [4]) (by kernel_rfl) (by simp) ?_
          refine AllReadyZ.cons (opAt rfl) (fun K hK => ?_) ?_
          · skip
            refine step_append_one (by rfl) (.tmp 17) (.tmp 20) _ (by rfl) lo 22 i0 _ 1 8 Try.underlying25 hi0 hz0 hs0 hb0 rfl (by decide) (by decide) _ k _ (by rfl) h1 _ #[.int .u64 x] (by rfl) bk rfl rfl HN.out HL.out ?_
            intro A3 c3 w5 h3 hg_ hat_
            replace b5 := b5.grown hg_ (own_blk_ne h1 b5 (by decide)).symm
            replace b6 := b6.grown hg_ (own_blk_ne h1 b6 (by decide)).symm
            replace bp := bp.grown hg_ (own_blk_ne h1 bp (by decide)).symm
            replace br := br.grown hg_ (own_blk_ne h1 br (by decide)).symm
            replace hb := below_appended hb h1 hg_ HLB.out (Nat.le_trans HLB.out HL.out)
            obtain ⟨h2', ha'⟩ := push_row (v' := .slice A3 (k + 1) c3) h2 ha hg_ hat_
            replace h2 := h2'
            replace ha := ha'
            clear h2' ha'
            replace bv := bv.grown hg_ HBL.out
            replace HL := hide (Nat.le_trans HL.out hg_.size)
            clear h1 hg_ hat_ bk
            refine hK.out _ _ (by exact ⟨⟨b5.cell 0, b6.cell 0⟩, cellsP bp⟩) (fun hHeld => ?_)
            clear hK K
            try simp only [Act.put, List.setIfInBounds_toArray, List.set_cons_zero, List.set_cons_succ]
            refine wpAnyZ_ready (rs := [9]) (by kernel_rfl) (by simp) ?_
            refine AllReadyZ.cons (opAt rfl) (fun K hK => ?_) ?_
            · skip
              refine step_append_one (by rfl) (.tmp 22) (.tmp 25) _ (by rfl) lo 22 i0 _ 1 8 Try.underlying25 hi0 hz0 hs0 hb0 rfl (by decide) (by decide) _ m _ (by rfl) h2 _ #[.int .u64 y] (by rfl) bv rfl rfl HM.out HL.out ?_
              intro A4 c4 w7 h4 hg_ hat_
              replace b5 := b5.grown hg_ (own_blk_ne h2 b5 (by decide)).symm
              replace b6 := b6.grown hg_ (own_blk_ne h2 b6 (by decide)).symm
              replace bp := bp.grown hg_ (own_blk_ne h2 bp (by decide)).symm
              replace br := br.grown hg_ (own_blk_ne h2 br (by decide)).symm
              replace hb := below_appended hb h2 hg_ HLB.out (Nat.le_trans HLB.out HL.out)
              obtain ⟨h3', ha'⟩ := push_row (v' := .slice A4 (m + 1) c4) h3 ha.symm hg_ hat_
              replace h3 := h3'
              replace ha := ha'.symm
              clear h3' ha'
              replace HL := hide (Nat.le_trans HL.out hg_.size)
              clear h2 hg_ hat_ bv
              refine hK.out _ _ (by exact ⟨⟨b5.cell 0, b6.cell 0⟩, cellsP bp⟩) (fun hHeld => ?_)
              clear hK K
              try simp only [Act.put, List.setIfInBounds_toArray, List.set_cons_zero, List.set_cons_succ]
              have z5 := fun i => b5.frozen i
              have z6 := fun i => b6.frozen i
              refine wpAnyZ_ready (rs := [10]) (by kernel_rfl) (by simp) ?_
              refine AllReadyZ.last (opAt rfl) (by kernel_rfl) (fun K hK => ?_) ?_
              · skip
                go_simp
                refine hK.out _ _ ?_
                clear hK K
                try simp only [Act.put, List.setIfInBounds_toArray, List.set_cons_zero, List.set_cons_succ]
                have z6' := fun i => (b6.far (p := ⟨g5, 0, none⟩) H65.out (.slice A3 (k + 1) c3)).frozen i
                have m6' := fun i => (b6.far (p := ⟨g5, 0, none⟩) H65.out (.slice A3 (k + 1) c3)).cell i
                refine wpAnyZ_ready (rs := [11]) (by kernel_rfl) (by simp) ?_
                refine AllReadyZ.last (opAt rfl) (by kernel_rfl) (fun K hK => ?_) ?_
                · skip
                  go_simp
                  refine hK.out _ _ ?_
                  clear hK K
                  try simp only [Act.put, List.setIfInBounds_toArray, List.set_cons_zero, List.set_cons_succ]
                  refine wpAnyZ_done (by kernel_rfl) ?_ _
                  replace h3 := own_set_blk (own_set_blk h3 b5 (by decide) 0 (.slice A3 (k + 1) c3)) (b6.far (p := ⟨g5, 0, none⟩) H65.out (.slice A3 (k + 1) c3)) (by decide) 0 (.slice A4 (m + 1) c4)
                  replace h4 := own_set_blk (own_set_blk h4 b5 (by decide) 0 (.slice A3 (k + 1) c3)) (b6.far (p := ⟨g5, 0, none⟩) H65.out (.slice A3 (k + 1) c3)) (by decide) 0 (.slice A4 (m + 1) c4)
                  replace b5 := (b5.set1 (.slice A3 (k + 1) c3)).far (p := ⟨g6, 0, none⟩) H56.out (.slice A4 (m + 1) c4)
                  replace b6 := (b6.far (p := ⟨g5, 0, none⟩) H65.out (.slice A3 (k + 1) c3)).set1 (.slice A4 (m + 1) c4)
                  replace br := (br.far (p := ⟨g5, 0, none⟩) HR5.out (.slice A3 (k + 1) c3)).far (p := ⟨g6, 0, none⟩) HR6.out (.slice A4 (m + 1) c4)
                  replace hb := (hb.setCell (p := ⟨g5, 0, none⟩) HB5.out (.slice A3 (k + 1) c3)).setCell (p := ⟨g6, 0, none⟩) HB6.out (.slice A4 (m + 1) c4)
                  replace HL := hide (show lo ≤ ((w7.setCell ⟨g5, 0, none⟩ (.slice A3 (k + 1) c3)).setCell ⟨g6, 0, none⟩ (.slice A4 (m + 1) c4)).heap.size by rw [size_set, size_set]; exact HL.out)
                  clear z5 z6 z6' m6' bp
                  generalize (w7.setCell ⟨g5, 0, none⟩ (.slice A3 (k + 1) c3)).setCell ⟨g6, 0, none⟩ (.slice A4 (m + 1) c4) = w9 at *
                  go_wp2_with fail
                  go_roundw
                  case measure => simp [intOf]; omega
                  case rel => exact ⟨⟨k + 1, m + 1, A3, c3, A4, c4, by rw [HMK.out], by go_num, by omega, b5, b6, by rw [HX.out, ints_append]; exact h3, by rw [HY.out, ← List.cons_append, ints_append]; exact h4, ha, HL.out, hb⟩, br⟩
                exact AllReadyZ.nil
              exact AllReadyZ.nil
            exact AllReadyZ.nil
          exact AllReadyZ.nil
        exact AllReadyZ.nil
      refine AllReadyZ.cons (opAt rfl) (fun K hK => ?_) ?_
      · skip
        go_simp
        replace b5 := b5.alloc (.cells #[.int .u64 y] 22)
        replace b6 := b6.alloc (.cells #[.int .u64 y] 22)
        replace bp := bp.alloc (.cells #[.int .u64 y] 22)
        replace br := br.alloc (.cells #[.int .u64 y] 22)
        have HBL := hide (own_old h1 (Nat.le_refl wb.heap.size))
        replace h1 := h1.alloc (.cells #[.int .u64 y] 22)
        replace h2 := h2.alloc (.cells #[.int .u64 y] 22)
        replace hb := hb.alloc hb.size (.cells #[.int .u64 y] 22)
        have bv := Blk.new wb 22 #[.int .u64 y]
        replace HL := hide (Nat.le_trans HL.out (show wb.heap.size ≤ (wb.alloc (.cells #[.int .u64 y] 22)).heap.size by rw [World.size_alloc]; exact Nat.le_succ _))
        generalize wb.alloc (.cells #[.int .u64 y] 22) = w3 at *
        refine hK.out _ _ (by exact ⟨⟨b5.cell 0, b6.cell 0⟩, cellsP bp⟩) (fun hHeld => ?_)
        clear hK K
        try simp only [Act.put, List.setIfInBounds_toArray, List.set_cons_zero, List.set_cons_succ]
        refine wpAnyZ_ready (rs := [3]) (by kernel_rfl) (by simp) ?_
        refine AllReadyZ.cons (opAt rfl) (fun K hK => ?_) ?_
        · skip
          go_simp
          replace b5 := b5.alloc (.cells #[.int .u64 x] 22)
          replace b6 := b6.alloc (.cells #[.int .u64 x] 22)
          replace bp := bp.alloc (.cells #[.int .u64 x] 22)
          replace br := br.alloc (.cells #[.int .u64 x] 22)
          replace bv := bv.alloc (.cells #[.int .u64 x] 22)
          replace h1 := h1.alloc (.cells #[.int .u64 x] 22)
          replace h2 := h2.alloc (.cells #[.int .u64 x] 22)
          replace hb := hb.alloc hb.size (.cells #[.int .u64 x] 22)
          have bk := Blk.new w3 22 #[.int .u64 x]
          replace HL := hide (Nat.le_trans HL.out (show w3.heap.size ≤ (w3.alloc (.cells #[.int .u64 x] 22)).heap.size by rw [World.size_alloc]; exact Nat.le_succ _))
          generalize w3.alloc (.cells #[.int .u64 x] 22) = w4 at *
          refine hK.out _ _ (by exact ⟨⟨b5.cell 0, b6.cell 0⟩, cellsP bp⟩) (fun hHeld => ?_)
          clear hK K
          try simp only [Act.put, List.setIfInBounds_toArray, List.set_cons_zero, List.set_cons_succ]
          refine wpAnyZ_ready (rs := [4]) (by kernel_rfl) (by simp) ?_
          refine AllReadyZ.cons (opAt rfl) (fun K hK => ?_) ?_
          · skip
            refine step_append_one (by rfl) (.tmp 17) (.tmp 20) _ (by rfl) lo 22 i0 _ 1 8 Try.underlying25 hi0 hz0 hs0 hb0 rfl (by decide) (by decide) _ k _ (by rfl) h1 _ #[.int .u64 x] (by rfl) bk rfl rfl HN.out HL.out ?_
            intro A3 c3 w5 h3 hg_ hat_
            replace b5 := b5.grown hg_ (own_blk_ne h1 b5 (by decide)).symm
            replace b6 := b6.grown hg_ (own_blk_ne h1 b6 (by decide)).symm
            replace bp := bp.grown hg_ (own_blk_ne h1 bp (by decide)).symm
            replace br := br.grown hg_ (own_blk_ne h1 br (by decide)).symm
            replace hb := below_appended hb h1 hg_ HLB.out (Nat.le_trans HLB.out HL.out)
            obtain ⟨h2', ha'⟩ := push_row (v' := .slice A3 (k + 1) c3) h2 ha hg_ hat_
            replace h2 := h2'
            replace ha := ha'
            clear h2' ha'
            replace bv := bv.grown hg_ HBL.out
            replace HL := hide (Nat.le_trans HL.out hg_.size)
            clear h1 hg_ hat_ bk
            refine hK.out _ _ (by exact ⟨⟨b5.cell 0, b6.cell 0⟩, cellsP bp⟩) (fun hHeld => ?_)
            clear hK K
            try simp only [Act.put, List.setIfInBounds_toArray, List.set_cons_zero, List.set_cons_succ]
            refine wpAnyZ_ready (rs := [9]) (by kernel_rfl) (by simp) ?_
            refine AllReadyZ.cons (opAt rfl) (fun K hK => ?_) ?_
            · skip
              refine step_append_one (by rfl) (.tmp 22) (.tmp 25) _ (by rfl) lo 22 i0 _ 1 8 Try.underlying25 hi0 hz0 hs0 hb0 rfl (by decide) (by decide) _ m _ (by rfl) h2 _ #[.int .u64 y] (by rfl) bv rfl rfl HM.out HL.out ?_
              intro A4 c4 w7 h4 hg_ hat_
              replace b5 := b5.grown hg_ (own_blk_ne h2 b5 (by decide)).symm
              replace b6 := b6.grown hg_ (own_blk_ne h2 b6 (by decide)).symm
              replace bp := bp.grown hg_ (own_blk_ne h2 bp (by decide)).symm
              replace br := br.grown hg_ (own_blk_ne h2 br (by decide)).symm
              replace hb := below_appended hb h2 hg_ HLB.out (Nat.le_trans HLB.out HL.out)
              obtain ⟨h3', ha'⟩ := push_row (v' := .slice A4 (m + 1) c4) h3 ha.symm hg_ hat_
              replace h3 := h3'
              replace ha := ha'.symm
              clear h3' ha'
              replace HL := hide (Nat.le_trans HL.out hg_.size)
              clear h2 hg_ hat_ bv
              refine hK.out _ _ (by exact ⟨⟨b5.cell 0, b6.cell 0⟩, cellsP bp⟩) (fun hHeld => ?_)
              clear hK K
              try simp only [Act.put, List.setIfInBounds_toArray, List.set_cons_zero, List.set_cons_succ]
              have z5 := fun i => b5.frozen i
              have z6 := fun i => b6.frozen i
              refine wpAnyZ_ready (rs := [10]) (by kernel_rfl) (by simp) ?_
              refine AllReadyZ.last (opAt rfl) (by kernel_rfl) (fun K hK => ?_) ?_
              · skip
                go_simp
                refine hK.out _ _ ?_
                clear hK K
                try simp only [Act.put, List.setIfInBounds_toArray, List.set_cons_zero, List.set_cons_succ]
                have z6' := fun i => (b6.far (p := ⟨g5, 0, none⟩) H65.out (.slice A3 (k + 1) c3)).frozen i
                have m6' := fun i => (b6.far (p := ⟨g5, 0, none⟩) H65.out (.slice A3 (k + 1) c3)).cell i
                refine wpAnyZ_ready (rs := [11]) (by kernel_rfl) (by simp) ?_
                refine AllReadyZ.last (opAt rfl) (by kernel_rfl) (fun K hK => ?_) ?_
                · skip
                  go_simp
                  refine hK.out _ _ ?_
                  clear hK K
                  try simp only [Act.put, List.setIfInBounds_toArray, List.set_cons_zero, List.set_cons_succ]
                  refine wpAnyZ_done (by kernel_rfl) ?_ _
                  replace h3 := own_set_blk (own_set_blk h3 b5 (by decide) 0 (.slice A3 (k + 1) c3)) (b6.far (p := ⟨g5, 0, none⟩) H65.out (.slice A3 (k + 1) c3)) (by decide) 0 (.slice A4 (m + 1) c4)
                  replace h4 := own_set_blk (own_set_blk h4 b5 (by decide) 0 (.slice A3 (k + 1) c3)) (b6.far (p := ⟨g5, 0, none⟩) H65.out (.slice A3 (k + 1) c3)) (by decide) 0 (.slice A4 (m + 1) c4)
                  replace b5 := (b5.set1 (.slice A3 (k + 1) c3)).far (p := ⟨g6, 0, none⟩) H56.out (.slice A4 (m + 1) c4)
                  replace b6 := (b6.far (p := ⟨g5, 0, none⟩) H65.out (.slice A3 (k + 1) c3)).set1 (.slice A4 (m + 1) c4)
                  replace br := (br.far (p := ⟨g5, 0, none⟩) HR5.out (.slice A3 (k + 1) c3)).far (p := ⟨g6, 0, none⟩) HR6.out (.slice A4 (m + 1) c4)
                  replace hb := (hb.setCell (p := ⟨g5, 0, none⟩) HB5.out (.slice A3 (k + 1) c3)).setCell (p := ⟨g6, 0, none⟩) HB6.out (.slice A4 (m + 1) c4)
                  replace HL := hide (show lo ≤ ((w7.setCell ⟨g5, 0, none⟩ (.slice A3 (k + 1) c3)).setCell ⟨g6, 0, none⟩ (.slice A4 (m + 1) c4)).heap.size by rw [size_set, size_set]; exact HL.out)
                  clear z5 z6 z6' m6' bp
                  generalize (w7.setCell ⟨g5, 0, none⟩ (.slice A3 (k + 1) c3)).setCell ⟨g6, 0, none⟩ (.slice A4 (m + 1) c4) = w9 at *
                  go_wp2_with fail
                  go_roundw
                  case measure => simp [intOf]; omega
                  case rel => exact ⟨⟨k + 1, m + 1, A3, c3, A4, c4, by rw [HMK.out], by go_num, by omega, b5, b6, by rw [HX.out, ints_append]; exact h3, by rw [HY.out, ← List.cons_append, ints_append]; exact h4, ha, HL.out, hb⟩, br⟩
                exact AllReadyZ.nil
              exact AllReadyZ.nil
            exact AllReadyZ.nil
          exact AllReadyZ.nil
        exact AllReadyZ.nil
      exact AllReadyZ.nil
    · have hlen := HLN.out
      obtain rfl : k = n := by omega
      have hkk : ¬ (k : Int) < (k : Int) := by omega
      rw [List.take_of_length_le (by omega)] at h1 h2
      have hf : (fstL l).length = k := by rw [fstL_len]; exact hlen
      have hs : (first :: sndL l).length = m := by rw [List.length_cons, sndL_len]; omega
      have O1 : Own wr lo (.slice A1 k c1) (fstL l) := by unfold Own; rw [hf]; exact h1
      have O2 : Own wr lo (.slice A2 m c2) (first :: sndL l) := by unfold Own; rw [hs]; exact h2
      have H4 := hide (show w.heap.size < wr.heap.size from br.lt)
      have key : rightI true (fstL l) (first :: sndL l) = riseB (fstL l) := by
        unfold rightI
        rw [hf, hs]
        simp
        omega
      have hlk : (fstL l).length ≤ 1000000 := by omega
      clear h1 h2 ha hlen hf hs hlt hk hn HR HLN
      cases hri : riseB (fstL l) with
      | true =>
        rw [hri] at key
        have HRI := hide hri
        clear hri
        have T1 := hide (tried_part 29 #[.pointer (some ⟨g5, 0, none⟩), .pointer (some ⟨g6, 0, none⟩), .pointer (some ⟨w.heap.size, 0, none⟩)] [w.heap.size] (fun w' => Blk w' w.heap.size 27 #[.bool true, .slice A1 k c1, .slice A2 m c2, .int .u64 0]) wr
          (fun _ => by rfl) (by intro o ho; simp at ho; subst ho; exact H4.out) (fun w' b _ h => h.far (p := ⟨wr.heap.size, 0, none⟩) (by have := H4.out; simp; omega) _)
          (fun w1 hB _ => of1_yes _ _ _ _ g5 g6 w.heap.size w1 hlk (b5.below hB b5.lt) (b6.below hB b6.lt) (br.below hB br.lt) ((O1.sl.below hB).more hB.size) ((O2.sl.below hB).more hB.size) key))
        clear key hlk
        go_wp2_with fail
        refine T1.out.mono ?_
        rintro e w8 ⟨rfl, hp, bo8⟩
        have P1 : Own w8 lo (.slice A1 k c1) (fstL l) := own_part O1 hp (by intro o ho; simp at ho; subst ho; exact ⟨_, _, br, by decide⟩)
        have P2 : Own w8 lo (.slice A2 m c2) (first :: sndL l) := own_part O2 hp (by intro o ho; simp at ho; subst ho; exact ⟨_, _, br, by decide⟩)
        have hb8 := Below.part hb hp (by intro o ho; simp at ho; omega) hb.size
        have N8 := hide (show NdO w8 lo (.agg #[.bool true, .slice A1 k c1, .slice A2 m c2, .int .u64 0]) true (fstL l) (first :: sndL l) 0 from ⟨_, _, rfl, P1, P2⟩)
        clear T1 hp O1 O2 P1 P2 b5 b6 br hb HMK hmk
        have mo := fun i => bo8.cell i
        have zo := fun i => bo8.frozen i
        go_wp2_with fail
        have b9 := bo8.setN (.bool true) (.slice A1 k c1) (.slice A2 m c2) (.int .u64 0)
        have B9 := below_setN hb8 (g := w.heap.size) (Nat.le_refl _) (.bool true) (.slice A1 k c1) (.slice A2 m c2) (.int .u64 0)
        have N9 := (N8.out.setN bo8 (.bool true) (.slice A1 k c1) (.slice A2 m c2) (.int .u64 0)).mono HLB.out
        have m9 := fun i => b9.cell i
        refine bodyPost_ret (v := .agg #[.bool true, .slice A1 k c1, .slice A2 m c2, .int .u64 0]) (by simp [results, Try.results11, go_sem, m9]) rfl ⟨⟨_, rfl, ?_⟩, B9⟩
        have e1 := HKK.out
        have e2 := HVV.out
        have e3 := HBB.out
        rw [HRI.out] at e1 e2 e3
        rw [if_pos rfl] at e1 e2
        rw [← e1, ← e2, ← e3]
        exact N9
      | false =>
        rw [hri] at key
        have HRI := hide hri
        clear hri
        have T1 := hide (tried_wrong 29 #[.pointer (some ⟨g5, 0, none⟩), .pointer (some ⟨g6, 0, none⟩), .pointer (some ⟨w.heap.size, 0, none⟩)] wr (fun _ => by rfl)
          (fun w1 hB => of1_no _ _ _ _ g5 g6 w.heap.size w1 hlk (b5.below hB b5.lt) (b6.below hB b6.lt) (br.below hB br.lt) ((O1.sl.below hB).more hB.size) ((O2.sl.below hB).more hB.size) key))
        clear key hlk
        go_wp2_with fail
        refine T1.out.mono ?_
        rintro e w8 ⟨rfl, hb1⟩
        replace br := br.below hb1 br.lt
        replace hb := hb.trans (hb1.mono hb.size)
        clear T1 O1 O2 b5 b6 hb1 HMK hmk
        have mo := fun i => br.cell i
        have zo := fun i => br.frozen i
        go_wp2_with fail
        have b9 := br.setN (.bool false) (.slice none 0 0) (.slice none 0 0) (.int .u64 0)
        have B9 := below_setN hb (g := w.heap.size) (Nat.le_refl _) (.bool false) (.slice none 0 0) (.slice none 0 0) (.int .u64 0)
        have m9 := fun i => b9.cell i
        refine bodyPost_ret (v := .agg #[.bool false, .slice none 0 0, .slice none 0 0, .int .u64 0]) (by simp [results, Try.results11, go_sem, m9]) rfl ⟨⟨_, rfl, ?_⟩, B9⟩
        have e1 := HKK.out
        have e2 := HVV.out
        have e3 := HBB.out
        rw [HRI.out] at e1 e2 e3
        rw [if_neg (by decide)] at e1 e2
        rw [← e1, ← e2, ← e3]
        exact ⟨_, _, rfl, Own.nil _ _, Own.nil _ _⟩
end Go.Proofs.Ytcmoblibjhaegaa
