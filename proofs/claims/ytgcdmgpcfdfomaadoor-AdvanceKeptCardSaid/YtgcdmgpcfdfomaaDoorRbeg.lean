/-
  gleaningref10.New: the words of a machine that begins.
-/
import Derived.Test.YtgcdmgpcfdfomaaDoorBegP
import Derived.Test.YtgcdmgpcfdfomaaDoorVref
namespace Go.Proofs.YtgcdmgpcfdfomaaDoor
open Go.RowKit

def RbIn (g gc N : Nat) (s t f l p : Int) (w : World) (i : Value) (wr : World) : Prop :=
  ∃ (k : Nat) (ws : List Int), i = .int .i64 k ∧ 2 ≤ k ∧ (k : Int) ≤ max 2 (s + 1) ∧ RefOk wr g ws ∧ ws.length = N ∧ BegK s t f k ws ∧ Blk wr gc 23 #[.int .i64 s, .int .i64 t, .int .i64 f, .int .i64 l, .int .i64 p] ∧ Below w.heap.size w wr
theorem set_begK {s t f k x : Int} {ws : List Int} {p : Nat} (hp : p < ws.length) (h : ∀ j : Nat, j < ws.length → (if j = p then x else ws.getD j 0) = bK s t f k j) : BegK s t f k (ws.set p x) := by
  intro j hj
  rw [List.length_set] at hj
  rw [getD_set _ _ _ _ hp]
  exact h j hj
theorem begK_zs (s t f : Int) (n : Nat) (p1 p2 p3 : Nat) (h1 : (p1 : Int) = nB t f 0 + 1) (h2 : (p2 : Int) = nB t f 0 + 3 + f) (h3 : (p3 : Int) = nB t f 1) (hf : 4 ≤ f) (hl : p1 < n ∧ p2 < n ∧ p3 < n) : BegK s t f 2 ((((zs n).set p1 3).set p2 65537).set p3 1099511627776) := by
  intro j hj
  simp only [List.length_set] at hj
  rw [getD_set _ _ _ _ (by simp only [List.length_set, zs_len]; omega), getD_set _ _ _ _ (by simp only [List.length_set, zs_len]; omega), getD_set _ _ _ _ (by rw [zs_len]; omega), getD_zs]
  have a1 := at_or (t := t) (f := f) (j := j) (k := 0) (c := 1) (by omega) (by omega)
  have a2 := at_or (t := t) (f := f) (j := j) (k := 0) (c := 3 + f) (by omega) (by omega)
  have a3 := at_or (t := t) (f := f) (j := j) (k := 1) (c := 0) (by omega) (by omega)
  have e1 : (j = p1) ↔ (j : Int) = nB t f 0 + 1 := by omega
  have e2 : (j = p2) ↔ (j : Int) = nB t f 0 + (3 + f) := by omega
  have e3 : (j = p3) ↔ (j : Int) = nB t f 1 + 0 := by omega
  unfold bK bOR
  simp only [e1, e2, e3, a1, a2, a3]
  generalize oOf t f j = o
  generalize rOf t f j = r
  repeat' split
  all_goals first | rfl | omega
set_option maxRecDepth 100000 in
set_option maxHeartbeats 4000000 in
theorem rnew10_any (s t f l p : Int) (N : Nat) (w : World) (hc : cfgOk s t f l p = true) (hN : laySize s t f = N) :
    Calls Tryd.prog 7 #[.agg #[.int .i64 s, .int .i64 t, .int .i64 f, .int .i64 l, .int .i64 p]] w fun e w' => (∃ g, e = .returned (.slice (some ⟨g, 0, none⟩) N N) ∧ RefOk w' g (begL s t f) ∧ w.heap.size ≤ g) ∧ Below w.heap.size w w' := by
  have hb := cfgOk_iff.1 hc
  have hs : 1 ≤ s ∧ s ≤ 1000 := by omega
  have ht : 1 ≤ t ∧ t ≤ 64 := by omega
  have hf : 4 ≤ f ∧ f ≤ 64 := by omega
  have hsp := size_pos hs ht hf
  have b0 := nB_bd hs ht hf (sl := 0) (by omega)
  have b1 := nB_bd hs ht hf (sl := 1) (by omega)
  obtain ⟨p1, hp1⟩ : ∃ p1 : Nat, nB t f 0 + 1 = p1 := Int.eq_ofNat_of_zero_le (by omega)
  obtain ⟨p2, hp2⟩ : ∃ p2 : Nat, nB t f 0 + 3 + f = p2 := Int.eq_ofNat_of_zero_le (by omega)
  obtain ⟨p3, hp3⟩ : ∃ p3 : Nat, nB t f 1 = p3 := Int.eq_ofNat_of_zero_le (by omega)
  have RN := hide (rnew_any s t f l p N · (by unfold rSize; rw [if_pos hc]; exact hN) (by omega))
  have C1 := hide (fun w2 => rshp_any s t f l p 0 w2 hs ht hf (by omega))
  have C2 := hide (fun w2 => rval_any s t f l p 0 0 w2 hs ht hf (by omega) (by omega))
  have C3 := hide (fun w2 => rver_any s t f l p 1 w2 hs ht hf (by omega))
  have C4 := hide (fun w2 => rword_any false false 0 1 w2 ⟨by omega, by omega⟩ ⟨by omega, by omega⟩)
  rw [show vpack 1 0 false false = 1099511627776 by rfl] at C4
  rw [hp1] at C1
  rw [show nB t f 0 + 3 + f + 0 = nB t f 0 + 3 + f by omega, hp2] at C2
  rw [hp3] at C3
  have CV := hide (fun (k : Nat) (hk : (k : Int) ≤ s) w2 => rver_any s t f l p k w2 hs ht hf (by omega))
  have CL := hide (fun (k : Nat) (hk : (k : Int) ≤ s) w2 => rlnkB_any s t f l p k w2 hs ht hf (by omega))
  have BG := hide (begK_zs s t f N p1 p2 p3 hp1.symm hp2.symm hp3.symm (by omega) (by omega))
  have q1 : (p1 : Int) < (N : Int) := by omega
  have q2 : (p2 : Int) < (N : Int) := by omega
  have q3 : (p3 : Int) < (N : Int) := by omega
  have qN : (N == 0) = false := by rw [beq_eq_false_iff_ne]; omega
  have qN2 : ((N : Int) == 0) = false := by rw [beq_eq_false_iff_ne]; omega
  have HNN := hide hN
  have HP := hide (And.intro hp1 (And.intro hp2 hp3))
  have HB := hide hb
  clear hp1 hp2 hp3 hN hb hc b0 b1 hsp
  have B0 := (Below.refl w.heap.size w).alloc (Nat.le_refl _) (.cells #[.int .i64 s, .int .i64 t, .int .i64 f, .int .i64 l, .int .i64 p] 23)
  have bc := Blk.new w 23 #[.int .i64 s, .int .i64 t, .int .i64 f, .int .i64 l, .int .i64 p]
  have mc := fun i => bc.cell i
  go_enter Tryd.func7, Tryd.ntmps7
  go_wp2_with fail
  refine (RN.out _).mono ?_
  rintro e w1 ⟨⟨g, rfl, R, hg⟩, hb1⟩
  replace bc := bc.below hb1 bc.lt
  replace B0 := B0.trans (hb1.mono B0.size)
  have HG := hide (show w.heap.size ≤ g by rw [World.size_alloc] at hg; omega)
  have HCG := hide (show w.heap.size ≠ g by rw [World.size_alloc] at hg; omega)
  have ne1 := HCG.out
  have ne2 := HCG.out.symm
  clear hb1 mc hg
  have mc := fun i => bc.cell i
  go_wp2_with fail
  refine (C1.out _).mono ?_
  rintro e w2 ⟨rfl, hb1⟩
  replace bc := bc.below hb1 bc.lt
  replace R := R.below hb1
  replace B0 := B0.trans (hb1.mono B0.size)
  clear hb1 mc
  have mc := fun i => bc.cell i
  have z1 := R.at_ (j := p1) (by rw [zs_len]; omega)
  have f1 := Blk.frozen R p1
  go_wp2_with fail
  clear z1 f1 mc
  replace R := R.set_ p1 3
  replace bc := bc.far (p := ⟨g, p1, none⟩) HCG.out (.int .u64 3)
  replace B0 := B0.setCell (p := ⟨g, p1, none⟩) HG.out (.int .u64 3)
  generalize w2.setCell ⟨g, p1, none⟩ (.int .u64 3) = w3 at *
  refine (C2.out _).mono ?_
  rintro e w4 ⟨rfl, hb1⟩
  replace bc := bc.below hb1 bc.lt
  replace R := R.below hb1
  replace B0 := B0.trans (hb1.mono B0.size)
  clear hb1
  have mc := fun i => bc.cell i
  have z1 := R.at_ (j := p2) (by rw [List.length_set, zs_len]; omega)
  have f1 := Blk.frozen R p2
  go_wp2_with fail
  clear z1 f1 mc
  replace R := R.set_ p2 65537
  replace bc := bc.far (p := ⟨g, p2, none⟩) HCG.out (.int .u64 65537)
  replace B0 := B0.setCell (p := ⟨g, p2, none⟩) HG.out (.int .u64 65537)
  generalize w4.setCell ⟨g, p2, none⟩ (.int .u64 65537) = w5 at *
  have mc := fun i => bc.cell i
  refine (C3.out _).mono ?_
  rintro e w6 ⟨rfl, hb1⟩
  replace bc := bc.below hb1 bc.lt
  replace R := R.below hb1
  replace B0 := B0.trans (hb1.mono B0.size)
  clear hb1 mc
  have mc := fun i => bc.cell i
  go_wp2_with fail
  refine (C4.out _).mono ?_
  rintro e w7 ⟨rfl, hb1⟩
  replace bc := bc.below hb1 bc.lt
  replace R := R.below hb1
  replace B0 := B0.trans (hb1.mono B0.size)
  clear hb1 mc
  have mc := fun i => bc.cell i
  have z1 := R.at_ (j := p3) (by simp only [List.length_set, zs_len]; omega)
  have f1 := Blk.frozen R p3
  go_wp2_with fail
  clear z1 f1 mc
  replace R := R.set_ p3 1099511627776
  replace bc := bc.far (p := ⟨g, p3, none⟩) HCG.out (.int .u64 1099511627776)
  replace B0 := B0.setCell (p := ⟨g, p3, none⟩) HG.out (.int .u64 1099511627776)
  generalize w7.setCell ⟨g, p3, none⟩ (.int .u64 1099511627776) = w8 at *
  have hwl : ((((zs N).set p1 3).set p2 65537).set p3 1099511627776).length = N := by simp only [List.length_set, zs_len]
  generalize (((zs N).set p1 3).set p2 65537).set p3 1099511627776 = ws0 at *
  clear q1 q2 q3 C1 C2 C3 C4 RN HP
  go_loopw [4] (RbIn g w.heap.size N s t f l p w) (fun i _ => (s + 1).toNat - (intOf i).toNat)
  case atStart => exact ⟨2, ws0, rfl, by omega, by omega, R, hwl, BG.out, bc, B0⟩
  case round =>
    clear R hwl BG bc B0
    obtain ⟨k, ws, rfl, hk2, hks, R, hwl, BG, bc, B0⟩ := hrel
    have mc := fun i => bc.cell i
    by_cases hle : (k : Int) ≤ s
    · have bk := nB_bd hs ht hf (sl := (k : Int)) (by omega)
      obtain ⟨q, hq⟩ : ∃ q : Nat, nB t f k = q := Int.eq_ofNat_of_zero_le (by omega)
      have CVk := hide (CV.out k hle)
      have CLk := hide (CL.out k hle)
      rw [hq] at CVk
      rw [show nB t f (k : Int) + 2 = ((q + 2 : Nat) : Int) by omega] at CLk
      have hqN := HNN.out
      have hq1 : (q : Int) < (N : Int) := by omega
      have hq2 : ((q + 2 : Nat) : Int) < (N : Int) := by omega
      have HQ := hide hq
      have HW1 := hide (show q < ws.length by omega)
      have HW2 := hide (show q + 2 < (ws.set q 2).length by rw [List.length_set]; omega)
      have hk64 : IntKind.u64.wrap (k : Int) = (k : Int) := IntWalk.u64_in _ (by omega)
      have hk65 : IntKind.u64.wrap ((k : Int) + 1) = (k : Int) + 1 := IntWalk.u64_in _ (by omega)
      have hmf := hide (show (s + 1).toNat - (k + 1) < (s + 1).toNat - k by omega)
      clear bk hq hqN
      generalize hq2e : q + 2 = q2 at *
      replace hq2e := hide hq2e
      by_cases hlt : (k : Int) < s
      · go_wp2_with fail
        refine (CVk.out _).mono ?_
        rintro e w9 ⟨rfl, hb1⟩
        replace bc := bc.below hb1 bc.lt
        replace R := R.below hb1
        replace B0 := B0.trans (hb1.mono B0.size)
        clear hb1 mc
        have mc := fun i => bc.cell i
        have z1 := R.at_ (j := q) HW1.out
        have f1 := Blk.frozen R q
        go_wp2_with fail
        clear z1 f1 mc
        replace R := R.set_ q 2
        replace bc := bc.far (p := ⟨g, q, none⟩) HCG.out (.int .u64 2)
        replace B0 := B0.setCell (p := ⟨g, q, none⟩) HG.out (.int .u64 2)
        generalize w9.setCell ⟨g, q, none⟩ (.int .u64 2) = wA at *
        have mc := fun i => bc.cell i
        refine (CLk.out _).mono ?_
        rintro e wB ⟨rfl, hb1⟩
        replace bc := bc.below hb1 bc.lt
        replace R := R.below hb1
        replace B0 := B0.trans (hb1.mono B0.size)
        clear hb1 mc
        have mc := fun i => bc.cell i
        have z1 := R.at_ (j := q2) HW2.out
        have f1 := Blk.frozen R q2
        go_wp2_with fail
        have R9 := R.set_ q2 ((k : Int) + 1)
        have bc9 := bc.far (p := ⟨g, q2, none⟩) HCG.out (.int .u64 ((k : Int) + 1))
        have B9 := B0.setCell (p := ⟨g, q2, none⟩) HG.out (.int .u64 ((k : Int) + 1))
        go_roundw
        case measure => simp [intOf]; omega
        case rel =>
          refine ⟨k + 1, _, by go_num, by omega, by omega, R9, by rw [List.length_set, List.length_set]; exact hwl, ?_, bc9, B9⟩
          rw [show ((k + 1 : Nat) : Int) = (k : Int) + 1 by omega]
          refine set_begK HW2.out fun j hj => ?_
          rw [List.length_set] at hj
          rw [getD_set _ _ _ _ HW1.out, bK_step (by omega) (by omega), BG j hj]
          have h1 := HQ.out
          have h2 := hq2e.out
          have e1 : (j = q) ↔ (j : Int) = nB t f k := by omega
          have e2 : (j = q2) ↔ (j : Int) = nB t f k + 2 := by omega
          simp only [e1, e2]
          by_cases c1 : (j : Int) = nB t f k
          · rw [if_neg (by omega), if_pos c1, if_pos c1]
          · rw [if_neg c1, if_neg c1]
            by_cases c2 : (j : Int) = nB t f k + 2
            · rw [if_pos c2, if_pos ⟨hlt, c2⟩]
            · rw [if_neg c2, if_neg (fun h => c2 h.2)]
      · go_wp2_with fail
        refine (CVk.out _).mono ?_
        rintro e w9 ⟨rfl, hb1⟩
        replace bc := bc.below hb1 bc.lt
        replace R := R.below hb1
        replace B0 := B0.trans (hb1.mono B0.size)
        clear hb1 mc
        have mc := fun i => bc.cell i
        have z1 := R.at_ (j := q) HW1.out
        have f1 := Blk.frozen R q
        go_wp2_with fail
        have R9 := R.set_ q 2
        have bc9 := bc.far (p := ⟨g, q, none⟩) HCG.out (.int .u64 2)
        have B9 := B0.setCell (p := ⟨g, q, none⟩) HG.out (.int .u64 2)
        go_roundw
        case measure => simp [intOf]; omega
        case rel =>
          refine ⟨k + 1, _, by go_num, by omega, by omega, R9, by rw [List.length_set]; exact hwl, ?_, bc9, B9⟩
          rw [show ((k + 1 : Nat) : Int) = (k : Int) + 1 by omega]
          refine set_begK HW1.out fun j hj => ?_
          rw [bK_step (by omega) (by omega), BG j hj]
          have h1 := HQ.out
          have e1 : (j = q) ↔ (j : Int) = nB t f k := by omega
          simp only [e1]
          by_cases c1 : (j : Int) = nB t f k
          · rw [if_pos c1, if_pos c1]
          · rw [if_neg c1, if_neg c1, if_neg (fun h => absurd h.1 (by omega))]
    · have h2N : 2 < N := by have := HNN.out; have := size_pos hs ht hf; omega
      by_cases hs2 : 2 ≤ s
      · have hks2 : (k : Int) = s + 1 := by omega
        have HKS := hide hks2
        have z1 := R.at_ (j := 2) (by omega)
        have f1 := Blk.frozen R 2
        have i2 : (2 : Int) < (N : Int) := by omega
        clear hks2
        go_wp2_with fail
        have R9 := R.set_ 2 2
        have B9 := B0.setCell (p := ⟨g, 2, none⟩) HG.out (.int .u64 2)
        go_ret
        refine ⟨⟨g, rfl, ?_, HG.out⟩, B9⟩
        have e : ws.set 2 2 = begL s t f := by
          refine begL_of (by rw [List.length_set, hwl]; have := HNN.out; omega) fun j hj => ?_
          rw [List.length_set] at hj
          rw [getD_set _ _ _ _ (by omega), BG j hj, HKS.out]
          unfold begAt
          by_cases hj2 : j = 2
          · rw [if_pos hj2, if_pos (by omega), if_pos hs2]
          · rw [if_neg hj2, if_neg (by omega)]
        rw [← e]
        exact R9
      · have hs1 : s = 1 := by omega
        have HS1 := hide hs1
        clear hs1
        go_wp2_with fail
        go_ret
        refine ⟨⟨g, rfl, ?_, HG.out⟩, B0⟩
        have e : ws = begL s t f := by
          refine begL_of (by rw [hwl]; have := HNN.out; omega) fun j hj => ?_
          rw [BG j hj]
          have hs1 := HS1.out
          have hk3 : (k : Int) = 2 := by omega
          rw [hk3]
          unfold begAt
          by_cases hj2 : (j : Int) = 2
          · rw [if_pos hj2, if_neg (by omega)]
            unfold bK bOR
            have ho : oOf t f j < 0 := by
              unfold oOf
              rw [hj2]
              exact Int.ediv_neg_of_neg_of_pos (by omega) (by omega)
            generalize oOf t f j = o at *
            rw [if_neg (by omega), if_neg (by omega), if_neg (by omega), if_neg (by omega), if_neg (by omega)]
          · rw [if_neg hj2, show s + 1 = 2 by omega]
        rw [← e]
        exact R
end Go.Proofs.YtgcdmgpcfdfomaaDoor
