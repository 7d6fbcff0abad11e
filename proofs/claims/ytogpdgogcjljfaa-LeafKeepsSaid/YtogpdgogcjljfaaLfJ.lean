/-
  The document's Join: one leaf of two.
-/
import Derived.Test.YtogpdgogcjljfaaLfC
namespace Go.Proofs.Ytogpdgogcjljfaa
open Go.RowKit

theorem own_set_blk {w : World} {B g : Nat} {e T : TypeId} {s n : Nat} {xs : List Value} {v : Value} {cs : Array Value} (h : w.ownsRow B e s v n xs) (hb : Blk w g T cs) (hne : e ≠ T) (f : Nat) (u : Value) : (w.setCell ⟨g, f, none⟩ u).ownsRow B e s v n xs :=
  h.kept (row := some g) ⟨rfl, rfl, rfl, by rw [size_set]; exact Nat.le_refl _, fun k _ hk => Below.heap_setCell _ _ _ k (fun e' => hk (by rw [e']))⟩ (.inr (own_blk_ne h hb hne))
theorem own_setN_blk {w : World} {B g : Nat} {e T : TypeId} {s n : Nat} {xs : List Value} {v : Value} {c0 c1 c2 c3 : Value} (h : w.ownsRow B e s v n xs) (hb : Blk w g T #[c0, c1, c2, c3]) (hne : e ≠ T) (x y z u : Value) : ((((w.setCell ⟨g, 0, none⟩ x).setCell ⟨g, 1, none⟩ y).setCell ⟨g, 2, none⟩ z).setCell ⟨g, 3, none⟩ u).ownsRow B e s v n xs :=
  own_set_blk (own_set_blk (own_set_blk (own_set_blk h hb hne 0 x) (hb.set_ 0 x) hne 1 y) ((hb.set_ 0 x).set_ 1 y) hne 2 z) (((hb.set_ 0 x).set_ 1 y).set_ 2 z) hne 3 u
def JoinIn (g lo : Nat) (link : Int) (ks vs ks' vs' : List Int) (w : World) (i : Value) (wr : World) : Prop :=
  ∃ (j m : Nat) (A1 : Option Addr) (c1 : Nat) (A2 : Option Addr) (c2 : Nat), i = .int .i64 j ∧ j ≤ ks'.length ∧ m = ks.length + j ∧ Blk wr g 27 #[.bool false, .slice A1 m c1, .slice A2 m c2, .int .u64 link] ∧ wr.ownsRow lo 22 1 (.slice A1 m c1) m (ints .u64 (ks ++ ks'.take j)) ∧ wr.ownsRow lo 22 1 (.slice A2 m c2) m (ints .u64 (vs ++ vs'.take j)) ∧ Apart (.slice A1 m c1) (.slice A2 m c2) ∧ lo ≤ wr.heap.size ∧ Below w.heap.size w wr
theorem cutL_all (l : List Int) (n : Nat) (h : l.length = n) : cutL l 0 n = l := by
  subst h
  unfold cutL
  simp

set_option maxRecDepth 100000 in
set_option maxHeartbeats 4000000 in
theorem rjoin_any (v v' : Value) (b b' : Bool) (ks vs ks' vs' : List Int) (l l' link : Int) (w : World) (hkv : ks.length = vs.length) (hkv' : ks'.length = vs'.length) (hlk : ks.length ≤ 1000) (hlk' : ks'.length ≤ 1000) (h : Nd w w.heap.size v b ks vs l) (h' : Nd w w.heap.size v' b' ks' vs' l') :
    Calls Try.prog 18 #[v, v', .int .u64 link] w fun e w' => (∃ u, e = .returned u ∧ NdO w' w.heap.size u false (ks ++ ks') (vs ++ vs') link) ∧ Below w.heap.size w w' := by
  obtain ⟨i0, hi0, hz0, hs0, hb0⟩ := info_parts infoU
  have Ct := hide (fun w2 (hB : Below w.heap.size w w2) => rcut_ap v b ks vs l link 0 ks.length w2 (by omega) (by omega) (by omega) (by omega) (by omega) ((h.below hB).more hB.size))
  rw [cutL_all ks ks.length rfl, cutL_all vs ks.length hkv.symm] at Ct
  obtain ⟨k0, u0, rfl, hk0, hu0⟩ := h
  obtain ⟨A0, d0, rfl, _⟩ := hk0
  obtain ⟨A0', d0', rfl, _⟩ := hu0
  obtain ⟨k1, u1, rfl, hk1, hu1⟩ := h'
  obtain ⟨A, c, rfl, hc1, hc2, hrk⟩ := hk1
  obtain ⟨A', c', rfl, hc1', hc2', hrv⟩ := hu1
  have HRK := hide hrk
  have HRV := hide hrv
  clear hrk hrv
  obtain ⟨n', hn'⟩ : ∃ n', ks'.length = n' := ⟨_, rfl⟩
  obtain ⟨n0, hn0⟩ : ∃ n0, ks.length = n0 := ⟨_, rfl⟩
  rw [← hkv'] at HRV hc1' ⊢
  rw [← hkv] at Ct ⊢
  rw [hn'] at HRK HRV hc1 hc1' ⊢
  rw [hn0] at Ct ⊢
  have HNV := hide hkv'
  have HNK := hide hkv
  have HN' := hide hn'
  have HN0 := hide hn0
  have hn1 : n' ≤ 1000 := by omega
  have hn2 : n0 ≤ 1000 := by omega
  have hnc : (n' : Int) ≤ c := by omega
  have hnc' : (n' : Int) ≤ c' := by omega
  clear hn' hn0 hkv hkv' hlk hlk' hc1 hc1'
  have hb := (Below.refl w.heap.size w).alloc (Nat.le_refl _) (.cells #[.bool b, .slice A0 n0 d0, .slice A0' n0 d0', .int .u64 l] 27)
  have bx := Blk.new w 27 #[.bool b, .slice A0 n0 d0, .slice A0' n0 d0', .int .u64 l]
  have by_ := Blk.new (w.alloc (.cells #[.bool b, .slice A0 n0 d0, .slice A0' n0 d0', .int .u64 l] 27)) 27 #[.bool b', .slice A n' c, .slice A' n' c', .int .u64 l']
  replace hb := hb.alloc hb.size (.cells #[.bool b', .slice A n' c, .slice A' n' c', .int .u64 l'] 27)
  replace bx := bx.alloc (.cells #[.bool b', .slice A n' c, .slice A' n' c', .int .u64 l'] 27)
  have br := Blk.new ((w.alloc (.cells #[.bool b, .slice A0 n0 d0, .slice A0' n0 d0', .int .u64 l] 27)).alloc (.cells #[.bool b', .slice A n' c, .slice A' n' c', .int .u64 l'] 27)) 27 #[.bool false, .slice none 0 0, .slice none 0 0, .int .u64 0]
  replace hb := hb.alloc hb.size (.cells #[.bool false, .slice none 0 0, .slice none 0 0, .int .u64 0] 27)
  replace bx := bx.alloc (.cells #[.bool false, .slice none 0 0, .slice none 0 0, .int .u64 0] 27)
  replace by_ := by_.alloc (.cells #[.bool false, .slice none 0 0, .slice none 0 0, .int .u64 0] 27)
  simp only [World.size_alloc] at by_ br
  go_enter Try.func18, Try.ntmps18
  go_wp2_with fail
  generalize ((w.alloc (.cells #[.bool b, .slice A0 n0 d0, .slice A0' n0 d0', .int .u64 l] 27)).alloc (.cells #[.bool b', .slice A n' c, .slice A' n' c', .int .u64 l'] 27)).alloc (.cells #[.bool false, .slice none 0 0, .slice none 0 0, .int .u64 0] 27) = w2 at *
  obtain ⟨gr, hgr⟩ : ∃ gr, gr = w.heap.size + 1 + 1 := ⟨_, rfl⟩
  rw [← hgr] at br ⊢
  have hlo := hb.size
  have hgr2 := br.lt
  have hy2 := by_.lt
  refine (Ct.out _ hb).mono ?_
  rintro e w3 ⟨⟨K, V, rfl, h1, h2, ha⟩, hb3⟩
  obtain ⟨lo, hlo2⟩ : ∃ lo, lo = w2.heap.size := ⟨_, rfl⟩
  rw [← hlo2] at h1 h2
  have HLB := hide (show w.heap.size ≤ lo by omega)
  have HRB := hide (show w.heap.size ≤ gr by omega)
  obtain ⟨A1, c1, rfl⟩ := h1.val
  obtain ⟨A2, c2, rfl⟩ := h2.val
  replace by_ := by_.below hb3 by_.lt
  replace br := br.below hb3 br.lt
  replace hb := hb.trans (hb3.mono hb.size)
  have HL3 := hide (show lo ≤ w3.heap.size by rw [hlo2]; exact hb3.size)
  unfold Own at h1 h2
  rw [HN0.out] at ha ⊢
  rw [← HNK.out, HN0.out] at h2 ha ⊢
  rw [HN0.out] at h1
  have bo := Blk.new w3 27 #[.bool false, .slice A1 n0 c1, .slice A2 n0 c2, .int .u64 link]
  have HYG := hide (show w.heap.size + 1 ≠ w3.heap.size by have := by_.lt; omega)
  have HRG := hide (show gr ≠ w3.heap.size by have := br.lt; omega)
  have HGB := hide (show w.heap.size ≤ w3.heap.size from hb.size)
  clear hb3 Ct hlo hgr hgr2 hy2 hlo2 bx
  replace by_ := by_.alloc (.cells #[.bool false, .slice A1 n0 c1, .slice A2 n0 c2, .int .u64 link] 27)
  replace br := br.alloc (.cells #[.bool false, .slice A1 n0 c1, .slice A2 n0 c2, .int .u64 link] 27)
  replace h1 := h1.alloc (.cells #[.bool false, .slice A1 n0 c1, .slice A2 n0 c2, .int .u64 link] 27)
  replace h2 := h2.alloc (.cells #[.bool false, .slice A1 n0 c1, .slice A2 n0 c2, .int .u64 link] 27)
  replace hb := hb.alloc hb.size (.cells #[.bool false, .slice A1 n0 c1, .slice A2 n0 c2, .int .u64 link] 27)
  have HL := hide (Nat.le_trans HL3.out (show w3.heap.size ≤ (w3.alloc (.cells #[.bool false, .slice A1 n0 c1, .slice A2 n0 c2, .int .u64 link] 27)).heap.size by rw [World.size_alloc]; exact Nat.le_succ _))
  clear HL3
  go_wp2_with fail
  generalize w3.alloc (.cells #[.bool false, .slice A1 n0 c1, .slice A2 n0 c2, .int .u64 link] 27) = w4 at *
  generalize w3.heap.size = g at *
  go_loopw [8] (fun i wr => JoinIn g lo link ks vs ks' vs' w i wr ∧ Blk wr (w.heap.size + 1) 27 #[.bool b', .slice A n' c, .slice A' n' c', .int .u64 l'] ∧ Blk wr gr 27 #[.bool false, .slice none 0 0, .slice none 0 0, .int .u64 0]) (fun i _ => n' - (intOf i).toNat)
  case atStart => exact ⟨⟨0, n0, A1, c1, A2, c2, rfl, Nat.zero_le _, HN0.out.symm, bo, by simpa using h1, by simpa using h2, ha, HL.out, hb⟩, by_, br⟩
  case round =>
    clear bo hb HL by_ br h1 h2 ha
    obtain ⟨⟨j, m, A1, c1, A2, c2, rfl, hj, hm, bo, h1, h2, ha, hL, hb⟩, by_, br⟩ := hrel
    have hmm : m ≤ 2000 := by have := HN0.out; have := HN'.out; omega
    have my := fun i => by_.cell i
    have ly := by_.lt
    by_cases hlt : j < n'
    · have hjv : j < n' := hlt
      obtain ⟨ka, rfl, hkl, _⟩ := HRK.out.word hlt
      obtain ⟨va, rfl, hvl, _⟩ := HRV.out.word hjv
      have HL := hide hL
      have HKS := hide (take_snoc' ks' j hkl)
      have HVS := hide (take_snoc' vs' j hvl)
      have ZX := hide (fun w2 (hB : Below w.heap.size w w2) => word_cell HRK.out hlt hkl hB)
      have ZY := hide (fun w2 (hB : Below w.heap.size w w2) => word_cell HRV.out hjv hvl hB)
      generalize ks'[j] = x at *
      generalize vs'[j] = y at *
      have hjz : (j : Int) < (n' : Int) := by omega
      have hj1 : (0 : Int) ≤ (j : Int) := by omega
      have HN := hide (show m ≤ 4294967296 by omega)
      have HJ := hide (show j + 1 ≤ ks'.length by have := HN'.out; omega)
      have HM := hide (show m + 1 = ks.length + (j + 1) by omega)
      clear hL hm hkl hvl hjv hj
      go_wp2_with fail
      clear my ly
      replace bo := bo.drew
      replace by_ := by_.drew
      replace br := br.drew
      replace h1 := h1.drew
      replace h2 := h2.drew
      replace hb := hb.drew
      refine wp_region_heldZ [10] (fun w' => w'.cell? ⟨g, 1, none⟩ = some (.slice A1 m c1) ∧ w'.cell? ⟨w.heap.size + 1, 1, none⟩ = some (.slice (some ka) n' c) ∧ w'.cell? (ka.add j) = some (.int .u64 x)) (by kernel_rfl) (by exact ⟨bo.cell 1, by_.cell 1, ZX.out _ hb⟩) (fun hHeld => ?_)
      replace HL := hide (show lo ≤ wr.drew.heap.size from HL.out)
      generalize wr.drew = wb at *
      refine' wpAnyZ_takeA (i := 0) (v := ?_) (opAt rfl) (by kernel_rfl) (by kernel_rfl) (by kernel_rfl) (by kernel_rfl) (fun _ _ _ h => h) (by assumption) (by rfl) (fun w hSw => ?_) ?_
      rotate_left
      · (try dsimp only at hSw); go_simp; (try with_reducible rfl)
      try simp only [Act.put, List.setIfInBounds_toArray, List.set_cons_zero, List.set_cons_succ]
      refine' wpAnyZ_takeA (i := 1) (v := ?_) (opAt rfl) (by kernel_rfl) (by kernel_rfl) (by kernel_rfl) (by kernel_rfl) (fun _ _ _ h => h) (by assumption) (by rfl) (fun w hSw => ?_) ?_
      rotate_left
      · (try dsimp only at hSw); go_simp; (try with_reducible rfl)
      try simp only [Act.put, List.setIfInBounds_toArray, List.set_cons_zero, List.set_cons_succ]
      refine' wpAnyZ_takeA (i := 2) (v := ?_) (opAt rfl) (by kernel_rfl) (by kernel_rfl) (by kernel_rfl) (by kernel_rfl) (fun _ _ _ h => h) (by assumption) (by rfl) (fun w hSw => ?_) ?_
      rotate_left
      · (try dsimp only at hSw); go_simp; (try with_reducible rfl)
      try simp only [Act.put, List.setIfInBounds_toArray, List.set_cons_zero, List.set_cons_succ]
      refine' wpAnyZ_takeA (i := 3) (v := ?_) (opAt rfl) (by kernel_rfl) (by kernel_rfl) (by kernel_rfl) (by kernel_rfl) (fun _ _ _ h => h) (by assumption) (by rfl) (fun w hSw => ?_) ?_
      rotate_left
      · (try dsimp only at hSw); go_simp; (try with_reducible rfl)
      try simp only [Act.put, List.setIfInBounds_toArray, List.set_cons_zero, List.set_cons_succ]
      refine' wpAnyZ_takeA (i := 4) (v := ?_) (opAt rfl) (by kernel_rfl) (by kernel_rfl) (by kernel_rfl) (by kernel_rfl) (fun _ _ _ h => h) (by assumption) (by rfl) (fun w hSw => ?_) ?_
      rotate_left
      · (try dsimp only at hSw); go_simp; (try with_reducible rfl)
      try simp only [Act.put, List.setIfInBounds_toArray, List.set_cons_zero, List.set_cons_succ]
      refine' wpAnyZ_takeA (i := 5) (v := ?_) (opAt rfl) (by kernel_rfl) (by kernel_rfl) (by kernel_rfl) (by kernel_rfl) (fun _ _ _ h => h) (by assumption) (by rfl) (fun w hSw => ?_) ?_
      rotate_left
      · (try dsimp only at hSw); go_simp; (try with_reducible rfl)
      try simp only [Act.put, List.setIfInBounds_toArray, List.set_cons_zero, List.set_cons_succ]
      refine' wpAnyZ_takeA (i := 6) (v := ?_) (opAt rfl) (by kernel_rfl) (by kernel_rfl) (by kernel_rfl) (by kernel_rfl) (fun _ _ _ h => h) (by assumption) (by rfl) (fun w hSw => ?_) ?_
      rotate_left
      · (try dsimp only at hSw); go_simp; (try with_reducible rfl)
      try simp only [Act.put, List.setIfInBounds_toArray, List.set_cons_zero, List.set_cons_succ]
      refine wpAnyZ_ready (rs := [7]) (by kernel_rfl) (by simp) ?_
      refine AllReadyZ.cons (opAt rfl) (fun K hK => ?_) ?_
      · skip
        go_simp
        replace bo := bo.alloc (.cells #[.int .u64 x] 22)
        replace by_ := by_.alloc (.cells #[.int .u64 x] 22)
        replace br := br.alloc (.cells #[.int .u64 x] 22)
        replace h1 := h1.alloc (.cells #[.int .u64 x] 22)
        replace h2 := h2.alloc (.cells #[.int .u64 x] 22)
        replace hb := hb.alloc hb.size (.cells #[.int .u64 x] 22)
        have bk := Blk.new wb 22 #[.int .u64 x]
        replace HL := hide (Nat.le_trans HL.out (show wb.heap.size ≤ (wb.alloc (.cells #[.int .u64 x] 22)).heap.size by rw [World.size_alloc]; exact Nat.le_succ _))
        generalize wb.alloc (.cells #[.int .u64 x] 22) = w3 at *
        refine hK.out _ _ (by exact ⟨bo.cell 1, by_.cell 1, ZX.out _ hb⟩) (fun hHeld => ?_)
        clear hK K
        try simp only [Act.put, List.setIfInBounds_toArray, List.set_cons_zero, List.set_cons_succ]
        refine wpAnyZ_ready (rs := [8]) (by kernel_rfl) (by simp) ?_
        refine AllReadyZ.cons (opAt rfl) (fun K hK => ?_) ?_
        · skip
          refine step_append_one (by rfl) (.tmp 23) (.tmp 29) _ (by rfl) lo 22 i0 _ 1 8 Try.underlying25 hi0 hz0 hs0 hb0 rfl (by decide) (by decide) _ m _ (by rfl) h1 _ #[.int .u64 x] (by rfl) bk rfl rfl HN.out HL.out ?_
          intro A3 c3 w7 h3 hg_ hat_
          replace bo := bo.grown hg_ (own_blk_ne h1 bo (by decide)).symm
          replace by_ := by_.grown hg_ (own_blk_ne h1 by_ (by decide)).symm
          replace br := br.grown hg_ (own_blk_ne h1 br (by decide)).symm
          replace hb := below_appended hb h1 hg_ HLB.out (Nat.le_trans HLB.out HL.out)
          obtain ⟨ho', ha'⟩ := push_row (v' := .slice A3 (m + 1) c3) h2 ha hg_ hat_
          replace h2 := ho'
          replace ha := ha'
          clear ho' ha'
          replace HL := hide (Nat.le_trans HL.out hg_.size)
          clear h1 hg_ hat_ bk
          refine hK.out _ _ (by exact ⟨bo.cell 1, by_.cell 1, ZX.out _ hb⟩) (fun hHeld => ?_)
          clear hK K
          try simp only [Act.put, List.setIfInBounds_toArray, List.set_cons_zero, List.set_cons_succ]
          refine' wpAnyZ_takeA (i := 9) (v := ?_) (opAt rfl) (by kernel_rfl) (by kernel_rfl) (by kernel_rfl) (by kernel_rfl) (fun _ _ _ h => h) (by assumption) (by rfl) (fun w hSw => ?_) ?_
          rotate_left
          · (try dsimp only at hSw); go_simp; (try with_reducible rfl)
          try simp only [Act.put, List.setIfInBounds_toArray, List.set_cons_zero, List.set_cons_succ]
          refine wpAnyZ_ready (rs := [10]) (by kernel_rfl) (by simp) ?_
          refine AllReadyZ.last (opAt rfl) (by kernel_rfl) (fun K hK => ?_) ?_
          · skip
            have zo := fun i => bo.frozen i
            go_simp
            refine hK.out _ _ ?_
            clear hK K
            try simp only [Act.put, List.setIfInBounds_toArray, List.set_cons_zero, List.set_cons_succ]
            refine wpAnyZ_done (by kernel_rfl) ?_ _
            replace h3 := own_set_blk h3 bo (by decide) 1 (.slice A3 (m + 1) c3)
            replace h2 := own_set_blk h2 bo (by decide) 1 (.slice A3 (m + 1) c3)
            replace bo := bo.setK (.slice A3 (m + 1) c3)
            replace by_ := by_.far (p := ⟨g, 1, none⟩) HYG.out (.slice A3 (m + 1) c3)
            replace br := br.far (p := ⟨g, 1, none⟩) HRG.out (.slice A3 (m + 1) c3)
            replace hb := hb.setCell (p := ⟨g, 1, none⟩) HGB.out (.slice A3 (m + 1) c3)
            replace HL := hide (show lo ≤ (w7.setCell ⟨g, 1, none⟩ (.slice A3 (m + 1) c3)).heap.size by rw [size_set]; exact HL.out)
            generalize w7.setCell ⟨g, 1, none⟩ (.slice A3 (m + 1) c3) = w9 at *
            clear zo
            replace ha := ha.symm
            go_wp2_with fail
            replace bo := bo.drew
            replace by_ := by_.drew
            replace br := br.drew
            replace h2 := h2.drew
            replace h3 := h3.drew
            replace hb := hb.drew
            refine wp_region_heldZ [10] (fun w' => w'.cell? ⟨g, 2, none⟩ = some (.slice A2 m c2) ∧ w'.cell? ⟨w.heap.size + 1, 2, none⟩ = some (.slice (some va) n' c') ∧ w'.cell? (va.add j) = some (.int .u64 y)) (by kernel_rfl) (by exact ⟨bo.cell 2, by_.cell 2, ZY.out _ hb⟩) (fun hHeld => ?_)
            replace HL := hide (show lo ≤ w9.drew.heap.size from HL.out)
            generalize w9.drew = wb at *
            refine' wpAnyZ_takeA (i := 0) (v := ?_) (opAt rfl) (by kernel_rfl) (by kernel_rfl) (by kernel_rfl) (by kernel_rfl) (fun _ _ _ h => h) (by assumption) (by rfl) (fun w hSw => ?_) ?_
            rotate_left
            · (try dsimp only at hSw); go_simp; (try with_reducible rfl)
            try simp only [Act.put, List.setIfInBounds_toArray, List.set_cons_zero, List.set_cons_succ]
            refine' wpAnyZ_takeA (i := 1) (v := ?_) (opAt rfl) (by kernel_rfl) (by kernel_rfl) (by kernel_rfl) (by kernel_rfl) (fun _ _ _ h => h) (by assumption) (by rfl) (fun w hSw => ?_) ?_
            rotate_left
            · (try dsimp only at hSw); go_simp; (try with_reducible rfl)
            try simp only [Act.put, List.setIfInBounds_toArray, List.set_cons_zero, List.set_cons_succ]
            refine' wpAnyZ_takeA (i := 2) (v := ?_) (opAt rfl) (by kernel_rfl) (by kernel_rfl) (by kernel_rfl) (by kernel_rfl) (fun _ _ _ h => h) (by assumption) (by rfl) (fun w hSw => ?_) ?_
            rotate_left
            · (try dsimp only at hSw); go_simp; (try with_reducible rfl)
            try simp only [Act.put, List.setIfInBounds_toArray, List.set_cons_zero, List.set_cons_succ]
            refine' wpAnyZ_takeA (i := 3) (v := ?_) (opAt rfl) (by kernel_rfl) (by kernel_rfl) (by kernel_rfl) (by kernel_rfl) (fun _ _ _ h => h) (by assumption) (by rfl) (fun w hSw => ?_) ?_
            rotate_left
            · (try dsimp only at hSw); go_simp; (try with_reducible rfl)
            try simp only [Act.put, List.setIfInBounds_toArray, List.set_cons_zero, List.set_cons_succ]
            refine' wpAnyZ_takeA (i := 4) (v := ?_) (opAt rfl) (by kernel_rfl) (by kernel_rfl) (by kernel_rfl) (by kernel_rfl) (fun _ _ _ h => h) (by assumption) (by rfl) (fun w hSw => ?_) ?_
            rotate_left
            · (try dsimp only at hSw); go_simp; (try with_reducible rfl)
            try simp only [Act.put, List.setIfInBounds_toArray, List.set_cons_zero, List.set_cons_succ]
            refine' wpAnyZ_takeA (i := 5) (v := ?_) (opAt rfl) (by kernel_rfl) (by kernel_rfl) (by kernel_rfl) (by kernel_rfl) (fun _ _ _ h => h) (by assumption) (by rfl) (fun w hSw => ?_) ?_
            rotate_left
            · (try dsimp only at hSw); go_simp; (try with_reducible rfl)
            try simp only [Act.put, List.setIfInBounds_toArray, List.set_cons_zero, List.set_cons_succ]
            refine' wpAnyZ_takeA (i := 6) (v := ?_) (opAt rfl) (by kernel_rfl) (by kernel_rfl) (by kernel_rfl) (by kernel_rfl) (fun _ _ _ h => h) (by assumption) (by rfl) (fun w hSw => ?_) ?_
            rotate_left
            · (try dsimp only at hSw); go_simp; (try with_reducible rfl)
            try simp only [Act.put, List.setIfInBounds_toArray, List.set_cons_zero, List.set_cons_succ]
            refine wpAnyZ_ready (rs := [7]) (by kernel_rfl) (by simp) ?_
            refine AllReadyZ.cons (opAt rfl) (fun K hK => ?_) ?_
            · skip
              go_simp
              replace bo := bo.alloc (.cells #[.int .u64 y] 22)
              replace by_ := by_.alloc (.cells #[.int .u64 y] 22)
              replace br := br.alloc (.cells #[.int .u64 y] 22)
              replace h2 := h2.alloc (.cells #[.int .u64 y] 22)
              replace h3 := h3.alloc (.cells #[.int .u64 y] 22)
              replace hb := hb.alloc hb.size (.cells #[.int .u64 y] 22)
              have bk := Blk.new wb 22 #[.int .u64 y]
              replace HL := hide (Nat.le_trans HL.out (show wb.heap.size ≤ (wb.alloc (.cells #[.int .u64 y] 22)).heap.size by rw [World.size_alloc]; exact Nat.le_succ _))
              generalize wb.alloc (.cells #[.int .u64 y] 22) = w3 at *
              refine hK.out _ _ (by exact ⟨bo.cell 2, by_.cell 2, ZY.out _ hb⟩) (fun hHeld => ?_)
              clear hK K
              try simp only [Act.put, List.setIfInBounds_toArray, List.set_cons_zero, List.set_cons_succ]
              refine wpAnyZ_ready (rs := [8]) (by kernel_rfl) (by simp) ?_
              refine AllReadyZ.cons (opAt rfl) (fun K hK => ?_) ?_
              · skip
                refine step_append_one (by rfl) (.tmp 33) (.tmp 39) _ (by rfl) lo 22 i0 _ 1 8 Try.underlying25 hi0 hz0 hs0 hb0 rfl (by decide) (by decide) _ m _ (by rfl) h2 _ #[.int .u64 y] (by rfl) bk rfl rfl HN.out HL.out ?_
                intro A4 c4 w7 h4 hg_ hat_
                replace bo := bo.grown hg_ (own_blk_ne h2 bo (by decide)).symm
                replace by_ := by_.grown hg_ (own_blk_ne h2 by_ (by decide)).symm
                replace br := br.grown hg_ (own_blk_ne h2 br (by decide)).symm
                replace hb := below_appended hb h2 hg_ HLB.out (Nat.le_trans HLB.out HL.out)
                obtain ⟨ho', ha'⟩ := push_row (v' := .slice A4 (m + 1) c4) h3 ha hg_ hat_
                replace h3 := ho'
                replace ha := ha'
                clear ho' ha'
                replace HL := hide (Nat.le_trans HL.out hg_.size)
                clear h2 hg_ hat_ bk
                refine hK.out _ _ (by exact ⟨bo.cell 2, by_.cell 2, ZY.out _ hb⟩) (fun hHeld => ?_)
                clear hK K
                try simp only [Act.put, List.setIfInBounds_toArray, List.set_cons_zero, List.set_cons_succ]
                refine' wpAnyZ_takeA (i := 9) (v := ?_) (opAt rfl) (by kernel_rfl) (by kernel_rfl) (by kernel_rfl) (by kernel_rfl) (fun _ _ _ h => h) (by assumption) (by rfl) (fun w hSw => ?_) ?_
                rotate_left
                · (try dsimp only at hSw); go_simp; (try with_reducible rfl)
                try simp only [Act.put, List.setIfInBounds_toArray, List.set_cons_zero, List.set_cons_succ]
                refine wpAnyZ_ready (rs := [10]) (by kernel_rfl) (by simp) ?_
                refine AllReadyZ.last (opAt rfl) (by kernel_rfl) (fun K hK => ?_) ?_
                · skip
                  have zo := fun i => bo.frozen i
                  go_simp
                  refine hK.out _ _ ?_
                  clear hK K
                  try simp only [Act.put, List.setIfInBounds_toArray, List.set_cons_zero, List.set_cons_succ]
                  refine wpAnyZ_done (by kernel_rfl) ?_ _
                  replace h4 := own_set_blk h4 bo (by decide) 2 (.slice A4 (m + 1) c4)
                  replace h3 := own_set_blk h3 bo (by decide) 2 (.slice A4 (m + 1) c4)
                  replace bo := bo.setV (.slice A4 (m + 1) c4)
                  replace by_ := by_.far (p := ⟨g, 2, none⟩) HYG.out (.slice A4 (m + 1) c4)
                  replace br := br.far (p := ⟨g, 2, none⟩) HRG.out (.slice A4 (m + 1) c4)
                  replace hb := hb.setCell (p := ⟨g, 2, none⟩) HGB.out (.slice A4 (m + 1) c4)
                  replace HL := hide (show lo ≤ (w7.setCell ⟨g, 2, none⟩ (.slice A4 (m + 1) c4)).heap.size by rw [size_set]; exact HL.out)
                  generalize w7.setCell ⟨g, 2, none⟩ (.slice A4 (m + 1) c4) = w9 at *
                  clear zo
                  go_wp2_with fail
                  go_roundw
                  case measure => (simp [intOf]; omega)
                  case rel => exact ⟨⟨j + 1, m + 1, A3, c3, A4, c4, by go_num, HJ.out, HM.out, bo, by rw [HKS.out, ← List.append_assoc, ints_append]; exact h3, by rw [HVS.out, ← List.append_assoc, ints_append]; exact h4, ha.symm, HL.out, hb⟩, by_, br⟩
                exact AllReadyZ.nil
              exact AllReadyZ.nil
            exact AllReadyZ.nil
          exact AllReadyZ.nil
        exact AllReadyZ.nil
      exact AllReadyZ.nil
    · have hn9 := HN'.out
      have hn8 := HNV.out
      obtain rfl : j = n' := by omega
      have hkk : ¬ (j : Int) < (j : Int) := by omega
      rw [List.take_of_length_le (by omega)] at h1 h2
      have hmk : (ks ++ ks').length = m := by rw [List.length_append]; omega
      have hmv : (vs ++ vs').length = m := by have := HNV.out; have := HNK.out; rw [List.length_append]; omega
      have o1 : Own wr lo (.slice A1 m c1) (ks ++ ks') := by unfold Own; rw [hmk]; exact h1
      have o2 : Own wr lo (.slice A2 m c2) (vs ++ vs') := by unfold Own; rw [hmv]; exact h2
      clear h1 h2 ha hmk hmv hlt hm hn9 hn8
      have mo := fun i => bo.cell i
      have mr := fun i => br.cell i
      have zr := fun i => br.frozen i
      go_wp2_with fail
      have b9 := br.setN (.bool false) (.slice A1 m c1) (.slice A2 m c2) (.int .u64 link)
      have B9 := below_setN hb (g := gr) HRB.out (.bool false) (.slice A1 m c1) (.slice A2 m c2) (.int .u64 link)
      have p1 := own_mono (own_setN_blk o1 br (by decide) (.bool false) (.slice A1 m c1) (.slice A2 m c2) (.int .u64 link)) HLB.out
      have p2 := own_mono (own_setN_blk o2 br (by decide) (.bool false) (.slice A1 m c1) (.slice A2 m c2) (.int .u64 link)) HLB.out
      have m9 := fun i => b9.cell i
      refine bodyPost_ret (v := .agg #[.bool false, .slice A1 m c1, .slice A2 m c2, .int .u64 link]) (by simp [results, Try.results18, go_sem, m9]) rfl ⟨⟨_, rfl, _, _, rfl, p1, p2⟩, B9⟩
end Go.Proofs.Ytogpdgogcjljfaa
