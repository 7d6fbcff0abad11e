/-
  The document's inner nodes: Cut.
-/
import Derived.Test.YtcmoblibjhaegaaIk
namespace Go.Proofs.Ytcmoblibjhaegaa
open Go.RowKit

theorem cutL_succ (l : List Int) (a j : Nat) (h : a ≤ j) (hj : j < l.length) : cutL l a (j + 1) = cutL l a j ++ [l[j]] := by
  unfold cutL
  rw [take_snoc' l j hj, List.drop_append_of_le_length (by simp; omega)]
theorem cutL_self (l : List Int) (a : Nat) : cutL l a a = [] := by
  unfold cutL
  exact List.drop_eq_nil_of_le (by simp; omega)
theorem cutL_nil (l : List Int) {a b : Nat} (h : b ≤ a) : cutL l a b = [] := by
  unfold cutL
  exact List.drop_eq_nil_of_le (by simp; omega)
/-- The cell of a word that a slice reads, in each world behind. -/
theorem word_cell {w : World} {B n : Nat} {ad : Addr} {l : List Int} (h : Reads w B 1 (some ad) n (ints .u64 l)) {j : Nat} (hj : j < n) (hl : j < l.length) {w2 : World} (hB : Below B w w2) : w2.cell? (ad.add j) = some (.int .u64 l[j]) := by
  obtain ⟨a', ea, hk, zz⟩ := (h.below hB).word hj
  injection ea with ea
  subst ea
  exact zz
def CutIn (g lo : Nat) (link : Int) (ks vs : List Int) (a t : Nat) (w : World) (i : Value) (wr : World) : Prop :=
  ∃ (j m p : Nat) (A1 : Option Addr) (c1 : Nat) (A2 : Option Addr) (c2 : Nat), i = .int .i64 j ∧ a ≤ j ∧ j ≤ t ∧ m = j - a ∧ p = m - 1 ∧ Blk wr g 27 #[.bool true, .slice A1 p c1, .slice A2 m c2, .int .u64 link] ∧ wr.ownsRow lo 22 1 (.slice A1 p c1) p (ints .u64 (cutL ks a (j - 1))) ∧ wr.ownsRow lo 22 1 (.slice A2 m c2) m (ints .u64 (cutL vs a j)) ∧ Apart (.slice A2 m c2) (.slice A1 p c1) ∧ lo ≤ wr.heap.size ∧ Below w.heap.size w wr

set_option maxRecDepth 100000 in
set_option maxHeartbeats 4000000 in
theorem rcutI_ap (v : Value) (b : Bool) (ks vs : List Int) (l link : Int) (a t : Nat) (w : World) (hat : a ≤ t) (hkv : vs.length = ks.length + 1) (hv : t ≤ vs.length) (hlk : ks.length ≤ 1000) (h : Nd w w.heap.size v b ks vs l) :
    Calls Try.prog 16 #[v, .int .i64 a, .int .i64 t, .int .u64 link] w fun e w' => (∃ k u, e = .returned (.agg #[.bool true, k, u, .int .u64 link]) ∧ Own w' w.heap.size k (cutL ks a (t - 1)) ∧ Own w' w.heap.size u (cutL vs a t) ∧ Apart u k) ∧ Below w.heap.size w w' := by
  obtain ⟨i0, hi0, hz0, hs0, hb0⟩ := info_parts infoU
  obtain ⟨k0, u0, rfl, hk0, hu0⟩ := h
  obtain ⟨A, c, rfl, hc1, hc2, hrk⟩ := hk0
  obtain ⟨A', c', rfl, hc1', hc2', hrv⟩ := hu0
  have HRK := hide hrk
  have HRV := hide hrv
  clear hrk hrv
  obtain ⟨n, hn⟩ : ∃ n, ks.length = n := ⟨_, rfl⟩
  obtain ⟨n', hn'⟩ : ∃ n', vs.length = n' := ⟨_, rfl⟩
  rw [hn] at HRK hkv ⊢
  rw [hn'] at HRV hkv ⊢
  have HNK := hide hn
  have HNV := hide hn'
  have HKV := hide hkv
  have HTV := hide (show t ≤ n' by omega)
  have hn1 : n ≤ 1000 := by omega
  have hn1' : n' ≤ 1001 := by omega
  have hnc : (n : Int) ≤ c := by omega
  have hnc' : (n' : Int) ≤ c' := by omega
  clear hn hn' hkv hv hlk hc1 hc1'
  have bx := Blk.new w 27 #[.bool b, .slice A n c, .slice A' n' c', .int .u64 l]
  have hb := (Below.refl w.heap.size w).alloc (Nat.le_refl _) (.cells #[.bool b, .slice A n c, .slice A' n' c', .int .u64 l] 27)
  have br := Blk.new (w.alloc (.cells #[.bool b, .slice A n c, .slice A' n' c', .int .u64 l] 27)) 27 #[.bool false, .slice none 0 0, .slice none 0 0, .int .u64 0]
  replace bx := bx.alloc (.cells #[.bool false, .slice none 0 0, .slice none 0 0, .int .u64 0] 27)
  replace hb := hb.alloc hb.size (.cells #[.bool false, .slice none 0 0, .slice none 0 0, .int .u64 0] 27)
  have bo := Blk.new ((w.alloc (.cells #[.bool b, .slice A n c, .slice A' n' c', .int .u64 l] 27)).alloc (.cells #[.bool false, .slice none 0 0, .slice none 0 0, .int .u64 0] 27)) 27 #[.bool true, .slice none 0 0, .slice none 0 0, .int .u64 link]
  replace bx := bx.alloc (.cells #[.bool true, .slice none 0 0, .slice none 0 0, .int .u64 link] 27)
  replace br := br.alloc (.cells #[.bool true, .slice none 0 0, .slice none 0 0, .int .u64 link] 27)
  replace hb := hb.alloc hb.size (.cells #[.bool true, .slice none 0 0, .slice none 0 0, .int .u64 link] 27)
  simp only [World.size_alloc] at br bo
  go_enter Try.func16, Try.ntmps16
  go_wp2_with fail
  generalize ((w.alloc (.cells #[.bool b, .slice A n c, .slice A' n' c', .int .u64 l] 27)).alloc (.cells #[.bool false, .slice none 0 0, .slice none 0 0, .int .u64 0] 27)).alloc (.cells #[.bool true, .slice none 0 0, .slice none 0 0, .int .u64 link] 27) = w2 at *
  obtain ⟨g, hg⟩ : ∃ g, g = w.heap.size + 1 + 1 := ⟨_, rfl⟩
  obtain ⟨gr, hgr⟩ : ∃ gr, gr = w.heap.size + 1 := ⟨_, rfl⟩
  obtain ⟨lo, hlo⟩ : ∃ lo, lo = w.heap.size + 1 + 1 + 1 := ⟨_, rfl⟩
  have HGB := hide (show w.heap.size ≤ g by omega)
  have HG := hide (show g < lo by omega)
  have HLB := hide (show w.heap.size ≤ lo by omega)
  have HXL := hide (show w.heap.size < lo by omega)
  have HRL := hide (show gr < lo by omega)
  have HXG := hide (show w.heap.size ≠ g by omega)
  have HRG := hide (show gr ≠ g by omega)
  have HRB := hide (show w.heap.size ≤ gr by omega)
  have HL := hide (show lo ≤ w2.heap.size by have := bo.lt; omega)
  rw [← hg] at bo ⊢
  rw [← hgr] at br ⊢
  clear hg hgr hlo
  go_loopw [10] (fun i wr => CutIn g lo link ks vs a t w i wr ∧ Blk wr w.heap.size 27 #[.bool b, .slice A n c, .slice A' n' c', .int .u64 l] ∧ Blk wr gr 27 #[.bool false, .slice none 0 0, .slice none 0 0, .int .u64 0]) (fun i _ => t - (intOf i).toNat)
  case atStart => exact ⟨⟨a, 0, 0, none, 0, none, 0, rfl, Nat.le_refl _, hat, by omega, rfl, bo, by rw [cutL_nil ks (by omega)]; exact World.ownsRow_nil _ _ _ _, by rw [cutL_self]; exact World.ownsRow_nil _ _ _ _, Apart.nil _, HL.out, hb⟩, bx, br⟩
  case round =>
    clear bo hb HL bx br
    obtain ⟨⟨j, m, p, A1, c1, A2, c2, rfl, hj, hjt, hm, hp, bo, h1, h2, ha, hL, hb⟩, bx, br⟩ := hrel
    by_cases hlt : j < t
    · have hjv : j < n' := by have := HTV.out; omega
      obtain ⟨va, rfl, hvl, _⟩ := HRV.out.word hjv
      have HL := hide hL
      have HVS := hide (cutL_succ vs a j hj hvl)
      have ZY := hide (fun w2 (hB : Below w.heap.size w w2) => word_cell HRV.out hjv hvl hB)
      generalize vs[j] = y at *
      have hjz : (j : Int) < (t : Int) := by omega
      have hj1 : (0 : Int) ≤ (j : Int) := by omega
      have hj3 : (j : Int) < (n' : Int) := by omega
      have HN := hide (show m ≤ 4294967296 by omega)
      have HNp := hide (show p ≤ 4294967296 by omega)
      have HJ := hide (show a ≤ j + 1 by omega)
      have HT := hide (show j + 1 ≤ t by omega)
      have HM := hide (show m + 1 = j + 1 - a by omega)
      by_cases hja : j = a
      · have hjz2 : ¬ (a : Int) < (j : Int) := by omega
        obtain rfl : p = 0 := by omega
        have HKS := hide (show cutL ks a (j + 1 - 1) = cutL ks a (j - 1) by rw [cutL_nil ks (by omega), cutL_nil ks (by omega)])
        have HP := hide (show 0 = m + 1 - 1 by omega)
        clear hL hm hp hvl hja
        go_wp2_with fail
        replace bo := bo.drew
        replace bx := bx.drew
        replace br := br.drew
        replace h2 := h2.drew
        replace h1 := h1.drew
        replace hb := hb.drew
        refine wp_region_heldZ [10] (fun w' => w'.cell? ⟨g, 2, none⟩ = some (.slice A2 m c2) ∧ w'.cell? ⟨w.heap.size, 2, none⟩ = some (.slice (some va) n' c') ∧ w'.cell? (va.add j) = some (.int .u64 y)) (by kernel_rfl) (by exact ⟨bo.cell 2, bx.cell 2, ZY.out _ hb⟩) (fun hHeld => ?_)
        replace HL := hide (show lo ≤ wr.drew.heap.size from HL.out)
        generalize wr.drew = wb at *
        refine' wpAnyZ_takeA (i := 0) (v := ?_) (opAt rfl) (by kernel_rfl) (by kernel_rfl) (by kernel_rfl) (by kernel_rfl) (fun _ _ _ h => h) (by assumption) (by rfl) (fun w hSw => ?_) ?_
        rotate_left
        · (try dsimp only at hSw); go_simp; (try with_reducible rfl)
        try simp only [Act.put, List.setIfInBounds_toArray, List.set_cons_zero, List.set_cons_succ]
        refine' wpAnyZ_takeA (i := 1) (v := ?_) (opAt rfl) (by kernel_rfl) (by kernel_rfl) (by kernel_rfl) (by kernel_rfl) (fun _ _ _ h => h) (by assumption) (by rfl) (fun w hSw => ?_) ?_
        rotate_left
        · (try dsimp only at hSw); go_simp; (try with_reducible rfl)
        try simp only [Act.put, List.setIfInBounds_toArray, List.set_cons_zero, List.set_cons_succ]
        refine' wpAnyZ_takeA (i := 2) (v := ?_) (opAt rfl) (by kernel_rfl) (by kernel_rfl) (by kernel_rfl) (by kernel_rfl) (fun _ _ _ h => h) (by assumption) (by rfl) (fun w hSw => ?_) ?_
        rotate_left
        · (try dsimp only at hSw); go_simp; (try with_reducible rfl)
        try simp only [Act.put, List.setIfInBounds_toArray, List.set_cons_zero, List.set_cons_succ]
        refine' wpAnyZ_takeA (i := 3) (v := ?_) (opAt rfl) (by kernel_rfl) (by kernel_rfl) (by kernel_rfl) (by kernel_rfl) (fun _ _ _ h => h) (by assumption) (by rfl) (fun w hSw => ?_) ?_
        rotate_left
        · (try dsimp only at hSw); go_simp; (try with_reducible rfl)
        try simp only [Act.put, List.setIfInBounds_toArray, List.set_cons_zero, List.set_cons_succ]
        refine' wpAnyZ_takeA (i := 4) (v := ?_) (opAt rfl) (by kernel_rfl) (by kernel_rfl) (by kernel_rfl) (by kernel_rfl) (fun _ _ _ h => h) (by assumption) (by rfl) (fun w hSw => ?_) ?_
        rotate_left
        · (try dsimp only at hSw); go_simp; (try with_reducible rfl)
        try simp only [Act.put, List.setIfInBounds_toArray, List.set_cons_zero, List.set_cons_succ]
        refine' wpAnyZ_takeA (i := 5) (v := ?_) (opAt rfl) (by kernel_rfl) (by kernel_rfl) (by kernel_rfl) (by kernel_rfl) (fun _ _ _ h => h) (by assumption) (by rfl) (fun w hSw => ?_) ?_
        rotate_left
        · (try dsimp only at hSw); go_simp; (try with_reducible rfl)
        try simp only [Act.put, List.setIfInBounds_toArray, List.set_cons_zero, List.set_cons_succ]
        refine' wpAnyZ_takeA (i := 6) (v := ?_) (opAt rfl) (by kernel_rfl) (by kernel_rfl) (by kernel_rfl) (by kernel_rfl) (fun _ _ _ h => h) (by assumption) (by rfl) (fun w hSw => ?_) ?_
        rotate_left
        · (try dsimp only at hSw); go_simp; (try with_reducible rfl)
        try simp only [Act.put, List.setIfInBounds_toArray, List.set_cons_zero, List.set_cons_succ]
        refine wpAnyZ_ready (rs := [7]) (by kernel_rfl) (by simp) ?_
        refine AllReadyZ.cons (opAt rfl) (fun K hK => ?_) ?_
        · skip
          go_simp
          replace bo := bo.alloc (.cells #[.int .u64 y] 22)
          replace bx := bx.alloc (.cells #[.int .u64 y] 22)
          replace br := br.alloc (.cells #[.int .u64 y] 22)
          replace h2 := h2.alloc (.cells #[.int .u64 y] 22)
          replace h1 := h1.alloc (.cells #[.int .u64 y] 22)
          replace hb := hb.alloc hb.size (.cells #[.int .u64 y] 22)
          have bk := Blk.new wb 22 #[.int .u64 y]
          replace HL := hide (Nat.le_trans HL.out (show wb.heap.size ≤ (wb.alloc (.cells #[.int .u64 y] 22)).heap.size by rw [World.size_alloc]; exact Nat.le_succ _))
          generalize wb.alloc (.cells #[.int .u64 y] 22) = w3 at *
          refine hK.out _ _ (by exact ⟨bo.cell 2, bx.cell 2, ZY.out _ hb⟩) (fun hHeld => ?_)
          clear hK K
          try simp only [Act.put, List.setIfInBounds_toArray, List.set_cons_zero, List.set_cons_succ]
          refine wpAnyZ_ready (rs := [8]) (by kernel_rfl) (by simp) ?_
          refine AllReadyZ.cons (opAt rfl) (fun K hK => ?_) ?_
          · skip
            refine step_append_one (by rfl) (.tmp 20) (.tmp 26) _ (by rfl) lo 22 i0 _ 1 8 Try.underlying25 hi0 hz0 hs0 hb0 rfl (by decide) (by decide) _ m _ (by rfl) h2 _ #[.int .u64 y] (by rfl) bk rfl rfl HN.out HL.out ?_
            intro A4 c4 w7 h4 hg_ hat_
            replace bo := blk_appended bo h2 hg_ HG.out
            replace bx := blk_appended bx h2 hg_ HXL.out
            replace br := blk_appended br h2 hg_ HRL.out
            replace hb := below_appended hb h2 hg_ HLB.out (Nat.le_trans HLB.out HL.out)
            obtain ⟨ho', ha'⟩ := push_row (v' := .slice A4 (m + 1) c4) h1 ha hg_ hat_
            replace h1 := ho'
            replace ha := ha'
            clear ho' ha'
            replace HL := hide (Nat.le_trans HL.out hg_.size)
            clear h2 hg_ hat_ bk
            refine hK.out _ _ (by exact ⟨bo.cell 2, bx.cell 2, ZY.out _ hb⟩) (fun hHeld => ?_)
            clear hK K
            try simp only [Act.put, List.setIfInBounds_toArray, List.set_cons_zero, List.set_cons_succ]
            refine' wpAnyZ_takeA (i := 9) (v := ?_) (opAt rfl) (by kernel_rfl) (by kernel_rfl) (by kernel_rfl) (by kernel_rfl) (fun _ _ _ h => h) (by assumption) (by rfl) (fun w hSw => ?_) ?_
            rotate_left
            · (try dsimp only at hSw); go_simp; (try with_reducible rfl)
            try simp only [Act.put, List.setIfInBounds_toArray, List.set_cons_zero, List.set_cons_succ]
            refine wpAnyZ_ready (rs := [10]) (by kernel_rfl) (by simp) ?_
            refine AllReadyZ.last (opAt rfl) (by kernel_rfl) (fun K hK => ?_) ?_
            · skip
              have zo := fun i => bo.frozen i
              go_simp
              refine hK.out _ _ ?_
              clear hK K
              try simp only [Act.put, List.setIfInBounds_toArray, List.set_cons_zero, List.set_cons_succ]
              refine wpAnyZ_done (by kernel_rfl) ?_ _
              replace bo := bo.setV (.slice A4 (m + 1) c4)
              replace bx := bx.far (p := ⟨g, 2, none⟩) HXG.out (.slice A4 (m + 1) c4)
              replace br := br.far (p := ⟨g, 2, none⟩) HRG.out (.slice A4 (m + 1) c4)
              replace h4 := own_setCell_far h4 (p := ⟨g, 2, none⟩) HG.out (.slice A4 (m + 1) c4)
              replace h1 := own_setCell_far h1 (p := ⟨g, 2, none⟩) HG.out (.slice A4 (m + 1) c4)
              replace hb := hb.setCell (p := ⟨g, 2, none⟩) HGB.out (.slice A4 (m + 1) c4)
              replace HL := hide (show lo ≤ (w7.setCell ⟨g, 2, none⟩ (.slice A4 (m + 1) c4)).heap.size by rw [size_set]; exact HL.out)
              generalize w7.setCell ⟨g, 2, none⟩ (.slice A4 (m + 1) c4) = w9 at *
              clear zo
              go_wp2_with fail
              go_roundw
              case measure => (simp [intOf]; omega)
              case rel => exact ⟨⟨j + 1, m + 1, 0, A1, c1, A4, c4, by go_num, HJ.out, HT.out, HM.out, HP.out, bo, by rw [HKS.out]; exact h1, by rw [HVS.out, ints_append]; exact h4, ha, HL.out, hb⟩, bx, br⟩
            exact AllReadyZ.nil
          exact AllReadyZ.nil
        exact AllReadyZ.nil
      · have hjz2 : (a : Int) < (j : Int) := by omega
        obtain ⟨q, hq⟩ : ∃ q, j = q + 1 := ⟨j - 1, by omega⟩
        have hqn : q < n := by have := HTV.out; have := HKV.out; omega
        obtain ⟨ka, rfl, hkl, _⟩ := HRK.out.word hqn
        have HKS := hide (show cutL ks a (j + 1 - 1) = cutL ks a (j - 1) ++ [ks[q]] by rw [show j + 1 - 1 = q + 1 by omega, show j - 1 = q by omega]; exact cutL_succ ks a q (by omega) hkl)
        have HP := hide (show p + 1 = m + 1 - 1 by omega)
        have ZX := hide (fun w2 (hB : Below w.heap.size w w2) => word_cell HRK.out hqn hkl hB)
        generalize ks[q] = x at *
        have hq1 : (j : Int) - 1 = (q : Int) := by omega
        have hq2 : (q : Int) < (n : Int) := by omega
        have hq3 : IntKind.i64.wrap (q : Int) = (q : Int) := IntWalk.i64_in _ (by omega)
        clear hL hm hp hvl hja hq hkl
        go_wp2_with fail
        replace bo := bo.drew
        replace bx := bx.drew
        replace br := br.drew
        replace h2 := h2.drew
        replace h1 := h1.drew
        replace hb := hb.drew
        refine wp_region_heldZ [10] (fun w' => w'.cell? ⟨g, 2, none⟩ = some (.slice A2 m c2) ∧ w'.cell? ⟨w.heap.size, 2, none⟩ = some (.slice (some va) n' c') ∧ w'.cell? (va.add j) = some (.int .u64 y)) (by kernel_rfl) (by exact ⟨bo.cell 2, bx.cell 2, ZY.out _ hb⟩) (fun hHeld => ?_)
        replace HL := hide (show lo ≤ wr.drew.heap.size from HL.out)
        generalize wr.drew = wb at *
        refine' wpAnyZ_takeA (i := 0) (v := ?_) (opAt rfl) (by kernel_rfl) (by kernel_rfl) (by kernel_rfl) (by kernel_rfl) (fun _ _ _ h => h) (by assumption) (by rfl) (fun w hSw => ?_) ?_
        rotate_left
        · (try dsimp only at hSw); go_simp; (try with_reducible rfl)
        try simp only [Act.put, List.setIfInBounds_toArray, List.set_cons_zero, List.set_cons_succ]
        refine' wpAnyZ_takeA (i := 1) (v := ?_) (opAt rfl) (by kernel_rfl) (by kernel_rfl) (by kernel_rfl) (by kernel_rfl) (fun _ _ _ h => h) (by assumption) (by rfl) (fun w hSw => ?_) ?_
        rotate_left
        · (try dsimp only at hSw); go_simp; (try with_reducible rfl)
        try simp only [Act.put, List.setIfInBounds_toArray, List.set_cons_zero, List.set_cons_succ]
        refine' wpAnyZ_takeA (i := 2) (v := ?_) (opAt rfl) (by kernel_rfl) (by kernel_rfl) (by kernel_rfl) (by kernel_rfl) (fun _ _ _ h => h) (by assumption) (by rfl) (fun w hSw => ?_) ?_
        rotate_left
        · (try dsimp only at hSw); go_simp; (try with_reducible rfl)
        try simp only [Act.put, List.setIfInBounds_toArray, List.set_cons_zero, List.set_cons_succ]
        refine' wpAnyZ_takeA (i := 3) (v := ?_) (opAt rfl) (by kernel_rfl) (by kernel_rfl) (by kernel_rfl) (by kernel_rfl) (fun _ _ _ h => h) (by assumption) (by rfl) (fun w hSw => ?_) ?_
        rotate_left
        · (try dsimp only at hSw); go_simp; (try with_reducible rfl)
        try simp only [Act.put, List.setIfInBounds_toArray, List.set_cons_zero, List.set_cons_succ]
        refine' wpAnyZ_takeA (i := 4) (v := ?_) (opAt rfl) (by kernel_rfl) (by kernel_rfl) (by kernel_rfl) (by kernel_rfl) (fun _ _ _ h => h) (by assumption) (by rfl) (fun w hSw => ?_) ?_
        rotate_left
        · (try dsimp only at hSw); go_simp; (try with_reducible rfl)
        try simp only [Act.put, List.setIfInBounds_toArray, List.set_cons_zero, List.set_cons_succ]
        refine' wpAnyZ_takeA (i := 5) (v := ?_) (opAt rfl) (by kernel_rfl) (by kernel_rfl) (by kernel_rfl) (by kernel_rfl) (fun _ _ _ h => h) (by assumption) (by rfl) (fun w hSw => ?_) ?_
        rotate_left
        · (try dsimp only at hSw); go_simp; (try with_reducible rfl)
        try simp only [Act.put, List.setIfInBounds_toArray, List.set_cons_zero, List.set_cons_succ]
        refine' wpAnyZ_takeA (i := 6) (v := ?_) (opAt rfl) (by kernel_rfl) (by kernel_rfl) (by kernel_rfl) (by kernel_rfl) (fun _ _ _ h => h) (by assumption) (by rfl) (fun w hSw => ?_) ?_
        rotate_left
        · (try dsimp only at hSw); go_simp; (try with_reducible rfl)
        try simp only [Act.put, List.setIfInBounds_toArray, List.set_cons_zero, List.set_cons_succ]
        refine wpAnyZ_ready (rs := [7]) (by kernel_rfl) (by simp) ?_
        refine AllReadyZ.cons (opAt rfl) (fun K hK => ?_) ?_
        · skip
          go_simp
          replace bo := bo.alloc (.cells #[.int .u64 y] 22)
          replace bx := bx.alloc (.cells #[.int .u64 y] 22)
          replace br := br.alloc (.cells #[.int .u64 y] 22)
          replace h2 := h2.alloc (.cells #[.int .u64 y] 22)
          replace h1 := h1.alloc (.cells #[.int .u64 y] 22)
          replace hb := hb.alloc hb.size (.cells #[.int .u64 y] 22)
          have bk := Blk.new wb 22 #[.int .u64 y]
          replace HL := hide (Nat.le_trans HL.out (show wb.heap.size ≤ (wb.alloc (.cells #[.int .u64 y] 22)).heap.size by rw [World.size_alloc]; exact Nat.le_succ _))
          generalize wb.alloc (.cells #[.int .u64 y] 22) = w3 at *
          refine hK.out _ _ (by exact ⟨bo.cell 2, bx.cell 2, ZY.out _ hb⟩) (fun hHeld => ?_)
          clear hK K
          try simp only [Act.put, List.setIfInBounds_toArray, List.set_cons_zero, List.set_cons_succ]
          refine wpAnyZ_ready (rs := [8]) (by kernel_rfl) (by simp) ?_
          refine AllReadyZ.cons (opAt rfl) (fun K hK => ?_) ?_
          · skip
            refine step_append_one (by rfl) (.tmp 20) (.tmp 26) _ (by rfl) lo 22 i0 _ 1 8 Try.underlying25 hi0 hz0 hs0 hb0 rfl (by decide) (by decide) _ m _ (by rfl) h2 _ #[.int .u64 y] (by rfl) bk rfl rfl HN.out HL.out ?_
            intro A4 c4 w7 h4 hg_ hat_
            replace bo := blk_appended bo h2 hg_ HG.out
            replace bx := blk_appended bx h2 hg_ HXL.out
            replace br := blk_appended br h2 hg_ HRL.out
            replace hb := below_appended hb h2 hg_ HLB.out (Nat.le_trans HLB.out HL.out)
            obtain ⟨ho', ha'⟩ := push_row (v' := .slice A4 (m + 1) c4) h1 ha hg_ hat_
            replace h1 := ho'
            replace ha := ha'
            clear ho' ha'
            replace HL := hide (Nat.le_trans HL.out hg_.size)
            clear h2 hg_ hat_ bk
            refine hK.out _ _ (by exact ⟨bo.cell 2, bx.cell 2, ZY.out _ hb⟩) (fun hHeld => ?_)
            clear hK K
            try simp only [Act.put, List.setIfInBounds_toArray, List.set_cons_zero, List.set_cons_succ]
            refine' wpAnyZ_takeA (i := 9) (v := ?_) (opAt rfl) (by kernel_rfl) (by kernel_rfl) (by kernel_rfl) (by kernel_rfl) (fun _ _ _ h => h) (by assumption) (by rfl) (fun w hSw => ?_) ?_
            rotate_left
            · (try dsimp only at hSw); go_simp; (try with_reducible rfl)
            try simp only [Act.put, List.setIfInBounds_toArray, List.set_cons_zero, List.set_cons_succ]
            refine wpAnyZ_ready (rs := [10]) (by kernel_rfl) (by simp) ?_
            refine AllReadyZ.last (opAt rfl) (by kernel_rfl) (fun K hK => ?_) ?_
            · skip
              have zo := fun i => bo.frozen i
              go_simp
              refine hK.out _ _ ?_
              clear hK K
              try simp only [Act.put, List.setIfInBounds_toArray, List.set_cons_zero, List.set_cons_succ]
              refine wpAnyZ_done (by kernel_rfl) ?_ _
              replace bo := bo.setV (.slice A4 (m + 1) c4)
              replace bx := bx.far (p := ⟨g, 2, none⟩) HXG.out (.slice A4 (m + 1) c4)
              replace br := br.far (p := ⟨g, 2, none⟩) HRG.out (.slice A4 (m + 1) c4)
              replace h4 := own_setCell_far h4 (p := ⟨g, 2, none⟩) HG.out (.slice A4 (m + 1) c4)
              replace h1 := own_setCell_far h1 (p := ⟨g, 2, none⟩) HG.out (.slice A4 (m + 1) c4)
              replace hb := hb.setCell (p := ⟨g, 2, none⟩) HGB.out (.slice A4 (m + 1) c4)
              replace HL := hide (show lo ≤ (w7.setCell ⟨g, 2, none⟩ (.slice A4 (m + 1) c4)).heap.size by rw [size_set]; exact HL.out)
              generalize w7.setCell ⟨g, 2, none⟩ (.slice A4 (m + 1) c4) = w9 at *
              clear zo
              replace ha := ha.symm
              go_wp2_with fail
              replace bo := bo.drew
              replace bx := bx.drew
              replace br := br.drew
              replace h1 := h1.drew
              replace h4 := h4.drew
              replace hb := hb.drew
              refine wp_region_heldZ [11] (fun w' => w'.cell? ⟨g, 1, none⟩ = some (.slice A1 p c1) ∧ w'.cell? ⟨w.heap.size, 1, none⟩ = some (.slice (some ka) n c) ∧ w'.cell? (ka.add q) = some (.int .u64 x)) (by kernel_rfl) (by exact ⟨bo.cell 1, bx.cell 1, ZX.out _ hb⟩) (fun hHeld => ?_)
              replace HL := hide (show lo ≤ w9.drew.heap.size from HL.out)
              generalize w9.drew = wb at *
              refine' wpAnyZ_takeA (i := 0) (v := ?_) (opAt rfl) (by kernel_rfl) (by kernel_rfl) (by kernel_rfl) (by kernel_rfl) (fun _ _ _ h => h) (by assumption) (by rfl) (fun w hSw => ?_) ?_
              rotate_left
              · (try dsimp only at hSw); go_simp; (try with_reducible rfl)
              try simp only [Act.put, List.setIfInBounds_toArray, List.set_cons_zero, List.set_cons_succ]
              refine' wpAnyZ_takeA (i := 1) (v := ?_) (opAt rfl) (by kernel_rfl) (by kernel_rfl) (by kernel_rfl) (by kernel_rfl) (fun _ _ _ h => h) (by assumption) (by rfl) (fun w hSw => ?_) ?_
              rotate_left
              · (try dsimp only at hSw); go_simp; (try with_reducible rfl)
              try simp only [Act.put, List.setIfInBounds_toArray, List.set_cons_zero, List.set_cons_succ]
              refine' wpAnyZ_takeA (i := 2) (v := ?_) (opAt rfl) (by kernel_rfl) (by kernel_rfl) (by kernel_rfl) (by kernel_rfl) (fun _ _ _ h => h) (by assumption) (by rfl) (fun w hSw => ?_) ?_
              rotate_left
              · (try dsimp only at hSw); go_simp; (try with_reducible rfl)
              try simp only [Act.put, List.setIfInBounds_toArray, List.set_cons_zero, List.set_cons_succ]
              refine' wpAnyZ_takeA (i := 3) (v := ?_) (opAt rfl) (by kernel_rfl) (by kernel_rfl) (by kernel_rfl) (by kernel_rfl) (fun _ _ _ h => h) (by assumption) (by rfl) (fun w hSw => ?_) ?_
              rotate_left
              · (try dsimp only at hSw); go_simp; (try with_reducible rfl)
              try simp only [Act.put, List.setIfInBounds_toArray, List.set_cons_zero, List.set_cons_succ]
              refine' wpAnyZ_takeA (i := 4) (v := ?_) (opAt rfl) (by kernel_rfl) (by kernel_rfl) (by kernel_rfl) (by kernel_rfl) (fun _ _ _ h => h) (by assumption) (by rfl) (fun w hSw => ?_) ?_
              rotate_left
              · (try dsimp only at hSw); go_simp; (try with_reducible rfl)
              try simp only [Act.put, List.setIfInBounds_toArray, List.set_cons_zero, List.set_cons_succ]
              refine' wpAnyZ_takeA (i := 5) (v := ?_) (opAt rfl) (by kernel_rfl) (by kernel_rfl) (by kernel_rfl) (by kernel_rfl) (fun _ _ _ h => h) (by assumption) (by rfl) (fun w hSw => ?_) ?_
              rotate_left
              · (try dsimp only at hSw); go_simp; (try with_reducible rfl)
              try simp only [Act.put, List.setIfInBounds_toArray, List.set_cons_zero, List.set_cons_succ]
              refine' wpAnyZ_takeA (i := 6) (v := ?_) (opAt rfl) (by kernel_rfl) (by kernel_rfl) (by kernel_rfl) (by kernel_rfl) (fun _ _ _ h => h) (by assumption) (by rfl) (fun w hSw => ?_) ?_
              rotate_left
              · (try dsimp only at hSw); go_simp; (try with_reducible rfl)
              try simp only [Act.put, List.setIfInBounds_toArray, List.set_cons_zero, List.set_cons_succ]
              refine' wpAnyZ_takeA (i := 7) (v := ?_) (opAt rfl) (by kernel_rfl) (by kernel_rfl) (by kernel_rfl) (by kernel_rfl) (fun _ _ _ h => h) (by assumption) (by rfl) (fun w hSw => ?_) ?_
              rotate_left
              · (try dsimp only at hSw); go_simp; (try with_reducible rfl)
              try simp only [Act.put, List.setIfInBounds_toArray, List.set_cons_zero, List.set_cons_succ]
              refine wpAnyZ_ready (rs := [8]) (by kernel_rfl) (by simp) ?_
              refine AllReadyZ.cons (opAt rfl) (fun K hK => ?_) ?_
              · skip
                go_simp
                replace bo := bo.alloc (.cells #[.int .u64 x] 22)
                replace bx := bx.alloc (.cells #[.int .u64 x] 22)
                replace br := br.alloc (.cells #[.int .u64 x] 22)
                replace h1 := h1.alloc (.cells #[.int .u64 x] 22)
                replace h4 := h4.alloc (.cells #[.int .u64 x] 22)
                replace hb := hb.alloc hb.size (.cells #[.int .u64 x] 22)
                have bk := Blk.new wb 22 #[.int .u64 x]
                replace HL := hide (Nat.le_trans HL.out (show wb.heap.size ≤ (wb.alloc (.cells #[.int .u64 x] 22)).heap.size by rw [World.size_alloc]; exact Nat.le_succ _))
                generalize wb.alloc (.cells #[.int .u64 x] 22) = w3 at *
                refine hK.out _ _ (by exact ⟨bo.cell 1, bx.cell 1, ZX.out _ hb⟩) (fun hHeld => ?_)
                clear hK K
                try simp only [Act.put, List.setIfInBounds_toArray, List.set_cons_zero, List.set_cons_succ]
                refine wpAnyZ_ready (rs := [9]) (by kernel_rfl) (by simp) ?_
                refine AllReadyZ.cons (opAt rfl) (fun K hK => ?_) ?_
                · skip
                  refine step_append_one (by rfl) (.tmp 33) (.tmp 40) _ (by rfl) lo 22 i0 _ 1 8 Try.underlying25 hi0 hz0 hs0 hb0 rfl (by decide) (by decide) _ p _ (by rfl) h1 _ #[.int .u64 x] (by rfl) bk rfl rfl HNp.out HL.out ?_
                  intro A3 c3 w7 h3 hg_ hat_
                  replace bo := blk_appended bo h1 hg_ HG.out
                  replace bx := blk_appended bx h1 hg_ HXL.out
                  replace br := blk_appended br h1 hg_ HRL.out
                  replace hb := below_appended hb h1 hg_ HLB.out (Nat.le_trans HLB.out HL.out)
                  obtain ⟨ho', ha'⟩ := push_row (v' := .slice A3 (p + 1) c3) h4 ha hg_ hat_
                  replace h4 := ho'
                  replace ha := ha'
                  clear ho' ha'
                  replace HL := hide (Nat.le_trans HL.out hg_.size)
                  clear h1 hg_ hat_ bk
                  refine hK.out _ _ (by exact ⟨bo.cell 1, bx.cell 1, ZX.out _ hb⟩) (fun hHeld => ?_)
                  clear hK K
                  try simp only [Act.put, List.setIfInBounds_toArray, List.set_cons_zero, List.set_cons_succ]
                  refine' wpAnyZ_takeA (i := 10) (v := ?_) (opAt rfl) (by kernel_rfl) (by kernel_rfl) (by kernel_rfl) (by kernel_rfl) (fun _ _ _ h => h) (by assumption) (by rfl) (fun w hSw => ?_) ?_
                  rotate_left
                  · (try dsimp only at hSw); go_simp; (try with_reducible rfl)
                  try simp only [Act.put, List.setIfInBounds_toArray, List.set_cons_zero, List.set_cons_succ]
                  refine wpAnyZ_ready (rs := [11]) (by kernel_rfl) (by simp) ?_
                  refine AllReadyZ.last (opAt rfl) (by kernel_rfl) (fun K hK => ?_) ?_
                  · skip
                    have zo := fun i => bo.frozen i
                    go_simp
                    refine hK.out _ _ ?_
                    clear hK K
                    try simp only [Act.put, List.setIfInBounds_toArray, List.set_cons_zero, List.set_cons_succ]
                    refine wpAnyZ_done (by kernel_rfl) ?_ _
                    replace bo := bo.setK (.slice A3 (p + 1) c3)
                    replace bx := bx.far (p := ⟨g, 1, none⟩) HXG.out (.slice A3 (p + 1) c3)
                    replace br := br.far (p := ⟨g, 1, none⟩) HRG.out (.slice A3 (p + 1) c3)
                    replace h3 := own_setCell_far h3 (p := ⟨g, 1, none⟩) HG.out (.slice A3 (p + 1) c3)
                    replace h4 := own_setCell_far h4 (p := ⟨g, 1, none⟩) HG.out (.slice A3 (p + 1) c3)
                    replace hb := hb.setCell (p := ⟨g, 1, none⟩) HGB.out (.slice A3 (p + 1) c3)
                    replace HL := hide (show lo ≤ (w7.setCell ⟨g, 1, none⟩ (.slice A3 (p + 1) c3)).heap.size by rw [size_set]; exact HL.out)
                    generalize w7.setCell ⟨g, 1, none⟩ (.slice A3 (p + 1) c3) = w9 at *
                    clear zo
                    go_wp2_with fail
                    go_roundw
                    case measure => (simp [intOf]; omega)
                    case rel => exact ⟨⟨j + 1, m + 1, p + 1, A3, c3, A4, c4, by go_num, HJ.out, HT.out, HM.out, HP.out, bo, by rw [HKS.out, ints_append]; exact h3, by rw [HVS.out, ints_append]; exact h4, ha.symm, HL.out, hb⟩, bx, br⟩
                  exact AllReadyZ.nil
                exact AllReadyZ.nil
              exact AllReadyZ.nil
            exact AllReadyZ.nil
          exact AllReadyZ.nil
        exact AllReadyZ.nil
    · obtain rfl : j = t := by omega
      have hkk : ¬ (j : Int) < (j : Int) := by omega
      have hmk : (cutL ks a (j - 1)).length = p := by rw [cutL_len ks a (j - 1) (by have := HTV.out; have := HKV.out; have := HNK.out; omega)]; omega
      have hmv : (cutL vs a j).length = m := by rw [cutL_len vs a j (by have := HTV.out; have := HNV.out; omega)]; omega
      have o1 : Own wr lo (.slice A1 p c1) (cutL ks a (j - 1)) := by unfold Own; rw [hmk]; exact h1
      have o2 : Own wr lo (.slice A2 m c2) (cutL vs a j) := by unfold Own; rw [hmv]; exact h2
      clear h1 h2 hmk hmv hlt hm hp
      have mo := fun i => bo.cell i
      have mr := fun i => br.cell i
      have zr := fun i => br.frozen i
      go_wp2_with fail
      have b9 := br.setN (.bool true) (.slice A1 p c1) (.slice A2 m c2) (.int .u64 link)
      have B9 := below_setN hb (g := gr) HRB.out (.bool true) (.slice A1 p c1) (.slice A2 m c2) (.int .u64 link)
      have p1 := own_mono (own_farN o1 HRL.out (.bool true) (.slice A1 p c1) (.slice A2 m c2) (.int .u64 link)) HLB.out
      have p2 := own_mono (own_farN o2 HRL.out (.bool true) (.slice A1 p c1) (.slice A2 m c2) (.int .u64 link)) HLB.out
      have m9 := fun i => b9.cell i
      refine bodyPost_ret (v := .agg #[.bool true, .slice A1 p c1, .slice A2 m c2, .int .u64 link]) (by simp [results, Try.results16, go_sem, m9]) rfl ⟨⟨_, _, rfl, p1, p2, ha⟩, B9⟩
theorem rcutI_any (v : Value) (b : Bool) (ks vs : List Int) (l link : Int) (a t : Nat) (w : World) (hat : a ≤ t) (hkv : vs.length = ks.length + 1) (hv : t ≤ vs.length) (hlk : ks.length ≤ 1000) (h : Nd w w.heap.size v b ks vs l) :
    Calls Try.prog 16 #[v, .int .i64 a, .int .i64 t, .int .u64 link] w fun e w' => (∃ u, e = .returned u ∧ NdO w' w.heap.size u true (cutL ks a (t - 1)) (cutL vs a t) link) ∧ Below w.heap.size w w' :=
  (rcutI_ap v b ks vs l link a t w hat hkv hv hlk h).mono fun _ _ ⟨⟨k, u, he, h1, h2, _⟩, hb⟩ => ⟨⟨_, he, k, u, rfl, h1, h2⟩, hb⟩
end Go.Proofs.Ytcmoblibjhaegaa
