/-
  gleaningref10.Node: what a slot's words tell, by the reference.
-/
import Derived.Test.YtegldbhabeoboaaDoorY1
namespace Go.Proofs.YtegldbhabeoboaaDoor
open Go.RowKit

/-- The keys behind k values. -/
def nkOf (b : Bool) (k : Nat) : Nat := if b = true then k - 1 else k
structure RnW (g gc : Nat) (s t f l p k : Int) (ws : List Int) (inn : Bool) (lk : Int) (w wr : World) (i : Nat) (A1 : Option Addr) (c1 : Nat) (A2 : Option Addr) (c2 : Nat) : Prop where
  bn : Blk wr (gc + 1 + 1) 49 #[.bool inn, .slice A1 (nkOf inn i) c1, .slice A2 i c2, .int .u64 lk]
  o1 : wr.ownsRow (gc + 3) 32 1 (.slice A1 (nkOf inn i) c1) (nkOf inn i) (ints .u64 (rowL ws (fun j => nB t f k + 3 + j) (nkOf inn i)))
  o2 : wr.ownsRow (gc + 3) 32 1 (.slice A2 i c2) i (ints .u64 (rowL ws (fun j => nB t f k + 3 + f + j) i))
  ha : Apart (.slice A1 (nkOf inn i) c1) (.slice A2 i c2)
  bc : Blk wr gc 23 #[.int .i64 s, .int .i64 t, .int .i64 f, .int .i64 l, .int .i64 p]
  br : Blk wr (gc + 1) 49 #[.bool false, .slice none 0 0, .slice none 0 0, .int .u64 0]
  rb : RefOk wr g ws
  hb : Below gc w wr
  hl : gc + 3 ≤ wr.heap.size
def RnI (g gc : Nat) (s t f l p k : Int) (ws : List Int) (inn : Bool) (lk : Int) (N : Nat) (w : World) (iv : Value) (wr : World) : Prop :=
  ∃ (i : Nat) (A1 : Option Addr) (c1 : Nat) (A2 : Option Addr) (c2 : Nat), iv = .int .i64 i ∧ i ≤ N ∧ RnW g gc s t f l p k ws inn lk w wr i A1 c1 A2 c2
theorem Blk.setI {w : World} {g : Nat} {t : TypeId} {a b c d : Value} (h : Blk w g t #[a, b, c, d]) (x : Value) : Blk (w.setCell ⟨g, 0, none⟩ x) g t #[x, b, c, d] := by
  have b9 := h.set_ 0 x
  simpa only [List.setIfInBounds_toArray, List.set_cons_zero, List.set_cons_succ] using b9
theorem Blk.setL {w : World} {g : Nat} {t : TypeId} {a b c d : Value} (h : Blk w g t #[a, b, c, d]) (x : Value) : Blk (w.setCell ⟨g, 3, none⟩ x) g t #[a, b, c, x] := by
  have b9 := h.set_ 3 x
  simpa only [List.setIfInBounds_toArray, List.set_cons_zero, List.set_cons_succ] using b9
theorem refok_far {w : World} {g : Nat} {ws : List Int} (R : RefOk w g ws) {p : Addr} (hp : g ≠ p.block) (v : Value) : RefOk (w.setCell p v) g ws := Blk.far R hp v
set_option maxRecDepth 100000 in
set_option maxHeartbeats 4000000 in
theorem rnode_yes (g : Nat) (s t f l p k : Int) (N0 c0 : Nat) (ws : List Int) (w : World) (hs : 1 ≤ s ∧ s ≤ 1000) (ht : 1 ≤ t ∧ t ≤ 64) (hf : 4 ≤ f ∧ f ≤ 64) (hk : 0 ≤ k ∧ k ≤ s) (hN0 : laySize s t f = N0) (hl : ws.length = N0) (R : RefOk w g ws) (h64 : AllW64 ws) :
    Calls Tryd.prog 21 #[.agg #[.int .i64 s, .int .i64 t, .int .i64 f, .int .i64 l, .int .i64 p], .slice (some ⟨g, 0, none⟩) N0 c0, .int .i64 k] w fun e w' => (∃ v, e = .returned v ∧ NdO w' w.heap.size v (nodI ws t f k) (nodK ws t f k) (nodV ws t f k) (nodL ws t f k)) ∧ Below w.heap.size w w' := by
  obtain ⟨i0, hi0, hz0, hs0, hb0⟩ := info_parts infoU64
  have hbd := nB_bd hs ht hf hk
  have hsp := size_pos hs ht hf
  obtain ⟨q, hq⟩ : ∃ q : Nat, nB t f k = q := Int.eq_ofNat_of_zero_le (by omega)
  have CS := hide (fun w2 => rshp_any s t f l p k w2 hs ht hf hk)
  have CLk := hide (fun w2 => rlnkB_any s t f l p k w2 hs ht hf hk)
  rw [hq] at CS CLk
  have CVa := hide (fun (i : Nat) (hi : i < 64) (pv : Nat) (hp : nB t f k + 3 + f + i = pv) w2 => by have h := rval_any s t f l p k i w2 hs ht hf hk (by omega); rw [hp] at h; exact h)
  have CKa := hide (fun (i : Nat) (hi : i < 64) (pk : Nat) (hp : nB t f k + 3 + i = pk) w2 => by have h := rkey_any s t f l p k i w2 hs ht hf hk (by omega); rw [hp] at h; exact h)
  have EN := hide (fun w2 => rentries_any (wGet ws (nB t f k + 1)) f w2 (wGet_w64 h64 _) ⟨by omega, by omega⟩)
  rw [nodN_eq h64 hf] at EN
  have IN := hide (fun w2 => rinner_any (wGet ws (nB t f k + 1)) w2 (wGet_w64 h64 _))
  rw [show innB (wGet ws (nB t f k + 1)) = nodI ws t f k from rfl] at IN
  have hNf := nodN_le (t := t) (k := k) h64 hf
  have hq2 : q + 2 < ws.length := by omega
  have e1 : ws.getD (q + 1) 0 = wGet ws (nB t f k + 1) := by rw [← wGet_at (by omega), show ((q + 1 : Nat) : Int) = nB t f k + 1 by omega]
  have e2 : ws.getD (q + 2) 0 = nodL ws t f k := by unfold nodL; rw [← wGet_at (by omega), show ((q + 2 : Nat) : Int) = nB t f k + 2 by omega]
  have A1c := hide (fun w2 (h : RefOk w2 g ws) => (by have h2 := h.at_ (j := q + 1) (by omega); rw [e1] at h2; exact h2 : w2.cell? ⟨g, q + 1, none⟩ = some (.int .u64 (wGet ws (nB t f k + 1)))))
  have A2c := hide (fun w2 (h : RefOk w2 g ws) => (by have h2 := h.at_ (j := q + 2) (by omega); rw [e2] at h2; exact h2 : w2.cell? ⟨g, q + 2, none⟩ = some (.int .u64 (nodL ws t f k))))
  have ATT := hide (fun (j : Nat) (hj : j < ws.length) w2 (h : RefOk w2 g ws) => h.at_ hj)
  have HWG := hide (fun (x : Int) (j : Nat) (hj : j < ws.length) (hx : x = j) => (by rw [hx, wGet_at hj] : wGet ws x = ws.getD j 0))
  have HKE := hide (show nodK ws t f k = rowL ws (fun j => nB t f k + 3 + j) (nodKn ws t f k) from rfl)
  have HVE := hide (show nodV ws t f k = rowL ws (fun j => nB t f k + 3 + f + j) (nodN ws t f k) from rfl)
  have HNK := hide (show nodKn ws t f k = nkOf (nodI ws t f k) (nodN ws t f k) from rfl)
  generalize wGet ws (nB t f k + 1) = x1 at *
  generalize nodI ws t f k = inn at *
  generalize nodN ws t f k = N at *
  generalize nodL ws t f k = lk at *
  generalize nodKn ws t f k = NK at *
  generalize nodK ws t f k = ks at *
  generalize nodV ws t f k = vs at *
  have HT := hide (And.intro hs (And.intro ht hf))
  have hbd2 : nB t f k + 3 + 2 * f ≤ N0 := by omega
  have HBD := hide hbd2
  have HNf := hide hNf
  have HQ := hide hq
  have HWL := hide hl
  have HR := hide R
  have HGG := hide (show g < w.heap.size from Blk.lt R)
  have hk0 : 0 ≤ k := hk.1
  have hks : ¬ s < k := by omega
  have hN1 : ((N0 : Int) == 0) = false := by simp; omega
  have hNpos : 0 < N0 := by omega
  have hq1N : q + 1 < N0 := by omega
  have hq2N : q + 2 < N0 := by omega
  have hq1i : ((q : Int) + 1).toNat = q + 1 := by omega
  have hq2i : ((q : Int) + 2).toNat = q + 2 := by omega
  have hq1l : (q : Int) + 1 < (N0 : Int) := by omega
  have hq2l : (q : Int) + 2 < (N0 : Int) := by omega
  have hfi : f ≤ 64 := hf.2
  clear hs ht hf hbd hsp hbd2 hNf hq2 hl hk e1 e2 h64 hN0 hq
  have B0 := (((Below.refl w.heap.size w).alloc (Nat.le_refl _) (.cells #[.int .i64 s, .int .i64 t, .int .i64 f, .int .i64 l, .int .i64 p] 23)).alloc (by simp only [World.size_alloc]; omega) (.cells #[.bool false, .slice none 0 0, .slice none 0 0, .int .u64 0] 49)).alloc (by simp only [World.size_alloc]; omega) (.cells #[.bool false, .slice none 0 0, .slice none 0 0, .int .u64 0] 49)
  have bc := ((Blk.new w 23 #[.int .i64 s, .int .i64 t, .int .i64 f, .int .i64 l, .int .i64 p]).alloc (.cells #[.bool false, .slice none 0 0, .slice none 0 0, .int .u64 0] 49)).alloc (.cells #[.bool false, .slice none 0 0, .slice none 0 0, .int .u64 0] 49)
  have br := (Blk.new (w.alloc (.cells #[.int .i64 s, .int .i64 t, .int .i64 f, .int .i64 l, .int .i64 p] 23)) 49 #[.bool false, .slice none 0 0, .slice none 0 0, .int .u64 0]).alloc (.cells #[.bool false, .slice none 0 0, .slice none 0 0, .int .u64 0] 49)
  have bn := Blk.new ((w.alloc (.cells #[.int .i64 s, .int .i64 t, .int .i64 f, .int .i64 l, .int .i64 p] 23)).alloc (.cells #[.bool false, .slice none 0 0, .slice none 0 0, .int .u64 0] 49)) 49 #[.bool false, .slice none 0 0, .slice none 0 0, .int .u64 0]
  simp only [World.size_alloc] at br bn
  replace R := R.below B0
  have mc := fun j => bc.cell j
  have mn := fun j => bn.cell j
  have zn := fun j => bn.frozen j
  go_enter Tryd.func21, Tryd.ntmps21
  go_wp2_with fail
  have hB0s := B0.size
  generalize (((w.alloc (.cells #[.int .i64 s, .int .i64 t, .int .i64 f, .int .i64 l, .int .i64 p] 23)).alloc (.cells #[.bool false, .slice none 0 0, .slice none 0 0, .int .u64 0] 49)).alloc (.cells #[.bool false, .slice none 0 0, .slice none 0 0, .int .u64 0] 49)) = w0 at *
  obtain ⟨gc, hgc⟩ : ∃ gc, gc = w.heap.size := ⟨_, rfl⟩
  rw [← hgc] at bc br bn mc mn zn HGG ⊢
  have HGC := hide hgc
  clear hgc hB0s
  refine (CS.out _).mono ?_
  rintro e w1 ⟨rfl, hb1⟩
  replace bc := bc.below hb1 bc.lt
  replace br := br.below hb1 br.lt
  replace bn := bn.below hb1 bn.lt
  replace R := R.below hb1
  replace B0 := B0.trans (hb1.mono B0.size)
  clear hb1
  have a1 := A1c.out _ R
  clear mc mn zn
  have mc := fun j => bc.cell j
  have mn := fun j => bn.cell j
  have zn := fun j => bn.frozen j
  go_wp2_with fail
  refine (EN.out _).mono ?_
  rintro e w1a ⟨rfl, rfl⟩
  go_wp2_with fail
  refine (IN.out _).mono ?_
  rintro e w1b ⟨rfl, rfl⟩
  go_wp2_with fail
  clear a1 mc mn zn
  replace bc := bc.far (p := ⟨gc + 1 + 1, 0, none⟩) (by show gc ≠ gc + 1 + 1; omega) (.bool inn)
  replace br := br.far (p := ⟨gc + 1 + 1, 0, none⟩) (by show gc + 1 ≠ gc + 1 + 1; omega) (.bool inn)
  replace R := refok_far R (p := ⟨gc + 1 + 1, 0, none⟩) (by have := HGG.out; show g ≠ gc + 1 + 1; omega) (.bool inn)
  replace B0 := B0.setCell (p := ⟨gc + 1 + 1, 0, none⟩) (by have := HGC.out; show w.heap.size ≤ gc + 1 + 1; omega) (.bool inn)
  replace bn := bn.setI (.bool inn)
  generalize w1.setCell ⟨gc + 1 + 1, 0, none⟩ (.bool inn) = w2 at *
  refine (CLk.out _).mono ?_
  rintro e w3 ⟨rfl, hb1⟩
  replace bc := bc.below hb1 bc.lt
  replace br := br.below hb1 br.lt
  replace bn := bn.below hb1 bn.lt
  replace R := R.below hb1
  replace B0 := B0.trans (hb1.mono B0.size)
  clear hb1
  have a2 := A2c.out _ R
  have mn := fun j => bn.cell j
  have zn := fun j => bn.frozen j
  go_wp2_with fail
  clear a2 mn zn
  replace bc := bc.far (p := ⟨gc + 1 + 1, 3, none⟩) (by show gc ≠ gc + 1 + 1; omega) (.int .u64 lk)
  replace br := br.far (p := ⟨gc + 1 + 1, 3, none⟩) (by show gc + 1 ≠ gc + 1 + 1; omega) (.int .u64 lk)
  replace R := refok_far R (p := ⟨gc + 1 + 1, 3, none⟩) (by have := HGG.out; show g ≠ gc + 1 + 1; omega) (.int .u64 lk)
  replace B0 := B0.setCell (p := ⟨gc + 1 + 1, 3, none⟩) (by have := HGC.out; show w.heap.size ≤ gc + 1 + 1; omega) (.int .u64 lk)
  replace bn := bn.setL (.int .u64 lk)
  generalize w3.setCell ⟨gc + 1 + 1, 3, none⟩ (.int .u64 lk) = w4 at *
  have hl4 : gc + 3 ≤ w4.heap.size := by have := bn.lt; omega
  have HL4 := hide hl4
  have B1 : Below gc w w4 := by rw [HGC.out]; exact B0
  clear hl4 B0 A1c A2c CS CLk EN IN hq1N hq2N hq1i hq2i hq1l hq2l
  go_loopw [10] (RnI g gc s t f l p k ws inn lk N w) (fun i _ => N - (intOf i).toNat)
  case atStart => exact ⟨0, none, 0, none, 0, rfl, Nat.zero_le _, ⟨by rw [show nkOf inn 0 = 0 by unfold nkOf; split <;> rfl]; exact bn, by rw [show nkOf inn 0 = 0 by unfold nkOf; split <;> rfl]; exact World.ownsRow_nil _ _ _ _, World.ownsRow_nil _ _ _ _, by rw [show nkOf inn 0 = 0 by unfold nkOf; split <;> rfl]; exact Apart.nil _, bc, br, R, B1, HL4.out⟩⟩
  case round =>
    clear bc br bn R B1 HL4
    obtain ⟨i, A1, c1, A2, c2, rfl, hi, ⟨bn, o1, o2, ha, bc, br, rb, hb, hl⟩⟩ := hrel
    have HL := hide hl
    clear hl
    by_cases hlt : i < N
    · have hi64 : i < 64 := by have := HNf.out; have := HT.out; omega
      obtain ⟨pv, hpv⟩ : ∃ pv : Nat, nB t f k + 3 + f + i = pv := Int.eq_ofNat_of_zero_le (by have := HQ.out; have := HT.out; omega)
      have CV := hide (CVa.out i hi64 pv hpv)
      have hpl : pv < ws.length := by have := HBD.out; have := HWL.out; have := HNf.out; omega
      obtain ⟨xv, hxv⟩ : ∃ xv, ws.getD pv 0 = xv := ⟨_, rfl⟩
      have ATV := hide (fun (w2 : World) (h : RefOk w2 g ws) => (by have h2 := ATT.out pv hpl w2 h; rw [hxv] at h2; exact h2 : w2.cell? ⟨g, pv, none⟩ = some (.int .u64 xv)))
      have HV2 := hide (show rowL ws (fun j => nB t f k + 3 + f + j) (i + 1) = rowL ws (fun j => nB t f k + 3 + f + j) i ++ [xv] by rw [rowL_succ, HWG.out _ pv hpl hpv, hxv])
      have HN := hide (show i ≤ 4294967296 by omega)
      have hpvN : pv < N0 := by have := HWL.out; omega
      have HPV := hide hpv
      have hlti : (i : Int) < (N : Int) := by omega
      have hi64b : (i : Int) ≤ 64 := by omega
      clear hpv hxv hpl hi64
      generalize hnk : nkOf inn i = nk at *
      have HNK0 := hide hnk
      clear hnk
      go_wp2_with fail
      refine wp_region_heldZ [12] (fun w' => w'.cell? ⟨gc + 1 + 1, 2, none⟩ = some (.slice A2 i c2) ∧ w'.cell? ⟨g, pv, none⟩ = some (.int .u64 xv) ∧ w'.cell? ⟨gc, 0, none⟩ = some (.int .i64 s) ∧ w'.cell? ⟨gc, 1, none⟩ = some (.int .i64 t) ∧ w'.cell? ⟨gc, 2, none⟩ = some (.int .i64 f) ∧ w'.cell? ⟨gc, 3, none⟩ = some (.int .i64 l) ∧ w'.cell? ⟨gc, 4, none⟩ = some (.int .i64 p)) (by kernel_rfl) (by exact ⟨bn.cell 2, ATV.out _ rb, bc.cell 0, bc.cell 1, bc.cell 2, bc.cell 3, bc.cell 4⟩) (fun hHeld => ?_)
      replace bn := bn.drew
      replace bc := bc.drew
      replace br := br.drew
      replace o1 := o1.drew
      replace o2 := o2.drew
      replace rb := (show RefOk _ g ws from Blk.drew rb)
      replace hb := hb.drew
      replace HL := hide (show gc + 3 ≤ wr.drew.heap.size from HL.out)
      generalize wr.drew = w0d at *
      refine' wpAnyZ_takeA (i := 0) (v := ?_) (opAt rfl) (by kernel_rfl) (by kernel_rfl) (by kernel_rfl) (by kernel_rfl) (fun _ _ _ h => h) (by assumption) (by rfl) (fun w hSw => ?_) ?_
      rotate_left
      · (try dsimp only at hSw); go_simp; (try with_reducible rfl)
      try simp only [Act.put, List.setIfInBounds_toArray, List.set_cons_zero, List.set_cons_succ]
      refine' wpAnyZ_takeA (i := 1) (v := ?_) (opAt rfl) (by kernel_rfl) (by kernel_rfl) (by kernel_rfl) (by kernel_rfl) (fun _ _ _ h => h) (by assumption) (by rfl) (fun w hSw => ?_) ?_
      rotate_left
      · (try dsimp only at hSw); go_simp; (try with_reducible rfl)
      try simp only [Act.put, List.setIfInBounds_toArray, List.set_cons_zero, List.set_cons_succ]
      refine' wpAnyZ_takeA (i := 2) (v := ?_) (opAt rfl) (by kernel_rfl) (by kernel_rfl) (by kernel_rfl) (by kernel_rfl) (fun _ _ _ h => h) (by assumption) (by rfl) (fun w hSw => ?_) ?_
      rotate_left
      · (try dsimp only at hSw); go_simp; (try with_reducible rfl)
      try simp only [Act.put, List.setIfInBounds_toArray, List.set_cons_zero, List.set_cons_succ]
      refine' wpAnyZ_takeA (i := 3) (v := ?_) (opAt rfl) (by kernel_rfl) (by kernel_rfl) (by kernel_rfl) (by kernel_rfl) (fun _ _ _ h => h) (by assumption) (by rfl) (fun w hSw => ?_) ?_
      rotate_left
      · (try dsimp only at hSw); go_simp; (try with_reducible rfl)
      try simp only [Act.put, List.setIfInBounds_toArray, List.set_cons_zero, List.set_cons_succ]
      refine' wpAnyZ_takeA (i := 4) (v := ?_) (opAt rfl) (by kernel_rfl) (by kernel_rfl) (by kernel_rfl) (by kernel_rfl) (fun _ _ _ h => h) (by assumption) (by rfl) (fun w hSw => ?_) ?_
      rotate_left
      · (try dsimp only at hSw); go_simp; (try with_reducible rfl)
      try simp only [Act.put, List.setIfInBounds_toArray, List.set_cons_zero, List.set_cons_succ]
      refine' wpAnyZ_takeA (i := 5) (v := ?_) (opAt rfl) (by kernel_rfl) (by kernel_rfl) (by kernel_rfl) (by kernel_rfl) (fun _ _ _ h => h) (by assumption) (by rfl) (fun w hSw => ?_) ?_
      rotate_left
      · (try dsimp only at hSw); go_simp; (try with_reducible rfl)
      try simp only [Act.put, List.setIfInBounds_toArray, List.set_cons_zero, List.set_cons_succ]
      refine wpAnyZ_ready (rs := [6]) (by kernel_rfl) (by simp) ?_
      refine AllReadyZ.cons (opAt rfl) (fun K hK => ?_) ?_
      · skip
        go_simp
        refine (CV.out _).mono ?_
        rintro e wa ⟨rfl, hb1⟩
        replace bn := bn.below hb1 bn.lt
        replace bc := bc.below hb1 bc.lt
        replace br := br.below hb1 br.lt
        replace rb := rb.below hb1
        replace o1 := own_below o1 hb1
        replace o2 := own_below o2 hb1
        replace hb := hb.trans (hb1.mono (Nat.le_trans (Nat.le_add_right _ 3) HL.out))
        replace HL := hide (Nat.le_trans HL.out hb1.size)
        clear hb1
        try go_wp2_with fail
        refine hK.out _ _ (by exact ⟨bn.cell 2, ATV.out _ rb, bc.cell 0, bc.cell 1, bc.cell 2, bc.cell 3, bc.cell 4⟩) (fun hHeld => ?_)
        clear hK K
        try simp only [Act.put, List.setIfInBounds_toArray, List.set_cons_zero, List.set_cons_succ]
        refine' wpAnyZ_takeA (i := 7) (v := ?_) (opAt rfl) (by kernel_rfl) (by kernel_rfl) (by kernel_rfl) (by kernel_rfl) (fun _ _ _ h => h) (by assumption) (by rfl) (fun w hSw => ?_) ?_
        rotate_left
        · (try dsimp only at hSw); go_simp; (try with_reducible rfl)
        try simp only [Act.put, List.setIfInBounds_toArray, List.set_cons_zero, List.set_cons_succ]
        refine' wpAnyZ_takeA (i := 8) (v := ?_) (opAt rfl) (by kernel_rfl) (by kernel_rfl) (by kernel_rfl) (by kernel_rfl) (fun _ _ _ h => h) (by assumption) (by rfl) (fun w hSw => ?_) ?_
        rotate_left
        · (try dsimp only at hSw); go_simp; (try with_reducible rfl)
        try simp only [Act.put, List.setIfInBounds_toArray, List.set_cons_zero, List.set_cons_succ]
        refine wpAnyZ_ready (rs := [9]) (by kernel_rfl) (by simp) ?_
        refine AllReadyZ.cons (opAt rfl) (fun K hK => ?_) ?_
        · skip
          go_simp
          replace bn := bn.alloc (.cells #[.int .u64 xv] 32)
          replace bc := bc.alloc (.cells #[.int .u64 xv] 32)
          replace br := br.alloc (.cells #[.int .u64 xv] 32)
          replace o1 := o1.alloc (.cells #[.int .u64 xv] 32)
          replace o2 := o2.alloc (.cells #[.int .u64 xv] 32)
          replace rb := (show RefOk _ g ws from Blk.alloc rb (.cells #[.int .u64 xv] 32))
          have bk := Blk.new wa 32 #[.int .u64 xv]
          replace hb := hb.alloc (Nat.le_trans (Nat.le_add_right _ 3) HL.out) (.cells #[.int .u64 xv] 32)
          replace HL := hide (Nat.le_trans HL.out (show wa.heap.size ≤ (wa.alloc (.cells #[.int .u64 xv] 32)).heap.size by rw [World.size_alloc]; exact Nat.le_succ _))
          generalize wa.alloc (.cells #[.int .u64 xv] 32) = wb at *
          refine hK.out _ _ (by exact ⟨bn.cell 2, ATV.out _ rb, bc.cell 0, bc.cell 1, bc.cell 2, bc.cell 3, bc.cell 4⟩) (fun hHeld => ?_)
          clear hK K
          try simp only [Act.put, List.setIfInBounds_toArray, List.set_cons_zero, List.set_cons_succ]
          refine wpAnyZ_ready (rs := [10]) (by kernel_rfl) (by simp) ?_
          refine AllReadyZ.cons (opAt rfl) (fun K hK => ?_) ?_
          · skip
            skip
            refine step_append_one (by rfl) (.tmp 51) (.tmp 59) _ (by rfl) (gc + 3) 32 i0 _ 1 8 Tryd.underlying29 hi0 hz0 hs0 hb0 rfl (by decide) (by decide) _ (i) _ (by rfl) o2 _ #[.int .u64 xv] (by rfl) bk rfl rfl HN.out HL.out ?_
            intro A2' c2' wc o2' hg_ hat_
            replace bn := blk_appended bn o2 hg_ (by omega)
            replace bc := blk_appended bc o2 hg_ (by omega)
            replace br := blk_appended br o2 hg_ (by omega)
            replace rb := (show RefOk _ g ws from blk_appended rb o2 hg_ (by have := HGG.out; omega))
            replace hb := below_appended hb o2 hg_ (by omega) (Nat.le_trans (Nat.le_add_right _ 3) HL.out)
            obtain ⟨ho', ha'⟩ := push_row (v' := .slice A2' ((i) + 1) c2') o1 ha.symm hg_ hat_
            replace o1 := ho'
            replace ha := ha'.symm
            clear ho' ha'
            replace HL := hide (Nat.le_trans HL.out hg_.size)
            clear o2 hg_ hat_ bk
            refine hK.out _ _ (by exact ⟨bn.cell 2, ATV.out _ rb, bc.cell 0, bc.cell 1, bc.cell 2, bc.cell 3, bc.cell 4⟩) (fun hHeld => ?_)
            clear hK K
            try simp only [Act.put, List.setIfInBounds_toArray, List.set_cons_zero, List.set_cons_succ]
            refine' wpAnyZ_takeA (i := 11) (v := ?_) (opAt rfl) (by kernel_rfl) (by kernel_rfl) (by kernel_rfl) (by kernel_rfl) (fun _ _ _ h => h) (by assumption) (by rfl) (fun w hSw => ?_) ?_
            rotate_left
            · (try dsimp only at hSw); go_simp; (try with_reducible rfl)
            try simp only [Act.put, List.setIfInBounds_toArray, List.set_cons_zero, List.set_cons_succ]
            refine wpAnyZ_ready (rs := [12]) (by kernel_rfl) (by simp) ?_
            refine AllReadyZ.last (opAt rfl) (by kernel_rfl) (fun K hK => ?_) ?_
            · skip
              have zo := fun i => bn.frozen i
              go_simp
              refine hK.out _ _ ?_
              clear hK K
              try simp only [Act.put, List.setIfInBounds_toArray, List.set_cons_zero, List.set_cons_succ]
              refine wpAnyZ_done (by kernel_rfl) ?_ _
              replace o1 := own_setT o1 bn (by decide) 2 (.slice A2' (i + 1) c2')
              have o2 := own_setT o2' bn (by decide) 2 (.slice A2' (i + 1) c2')
              replace bn := bn.setV (.slice A2' (i + 1) c2')
              replace bc := bc.far (p := ⟨gc + 1 + 1, 2, none⟩) (by show gc ≠ gc + 1 + 1; omega) (.slice A2' (i + 1) c2')
              replace br := br.far (p := ⟨gc + 1 + 1, 2, none⟩) (by show gc + 1 ≠ gc + 1 + 1; omega) (.slice A2' (i + 1) c2')
              replace rb := refok_far rb (p := ⟨gc + 1 + 1, 2, none⟩) (by have := HGG.out; show g ≠ gc + 1 + 1; omega) (.slice A2' (i + 1) c2')
              replace hb := hb.setCell (p := ⟨gc + 1 + 1, 2, none⟩) (by show gc ≤ gc + 1 + 1; omega) (.slice A2' (i + 1) c2')
              replace HL := hide (show gc + 3 ≤ (wc.setCell ⟨gc + 1 + 1, 2, none⟩ (.slice A2' (i + 1) c2')).heap.size by rw [World.size_setCell]; exact HL.out)
              generalize wc.setCell ⟨gc + 1 + 1, 2, none⟩ (.slice A2' (i + 1) c2') = w9 at *
              clear zo
              have mn := fun j => bn.cell j
              by_cases hp : inn = true ∧ i = 0
              · have hi0 : ¬ (0 : Int) < (i : Int) := by omega
                have e : nkOf inn (i + 1) = nk := by rw [← HNK0.out]; unfold nkOf; rw [if_pos hp.1, if_pos hp.1]; omega
                have E := hide e
                have HP := hide hp.1
                rw [hp.1] at mn
                clear e hp
                go_wp2_with fail
                go_roundw
                case measure => simp [intOf]; omega
                case rel => exact ⟨i + 1, A1, c1, A2', c2', by go_num, by omega, ⟨by rw [E.out]; exact bn, by rw [E.out]; exact o1, by rw [HV2.out, ints_append]; exact o2, by rw [E.out]; exact ha, bc, br, rb, hb, HL.out⟩⟩
              · have e : nkOf inn (i + 1) = nk + 1 := by
                  rw [← HNK0.out]
                  unfold nkOf
                  by_cases hb : inn = true
                  · rw [if_pos hb, if_pos hb]; have : i ≠ 0 := fun h => hp ⟨hb, h⟩; omega
                  · rw [if_neg hb, if_neg hb]
                have hni : nk ≤ i := by rw [← HNK0.out]; unfold nkOf; split <;> omega
                have E := hide e
                clear e
                have hn64 : nk < 64 := by have := HNf.out; have := HT.out; omega
                obtain ⟨pk, hpk⟩ : ∃ pk : Nat, nB t f k + 3 + nk = pk := Int.eq_ofNat_of_zero_le (by have := HQ.out; have := HT.out; omega)
                have CK := hide (CKa.out nk hn64 pk hpk)
                have hpl : pk < ws.length := by have := HBD.out; have := HWL.out; have := HNf.out; omega
                obtain ⟨xk, hxk⟩ : ∃ xk, ws.getD pk 0 = xk := ⟨_, rfl⟩
                have ATK := hide (fun (w2 : World) (h : RefOk w2 g ws) => (by have h2 := ATT.out pk hpl w2 h; rw [hxk] at h2; exact h2 : w2.cell? ⟨g, pk, none⟩ = some (.int .u64 xk)))
                have HK2 := hide (show rowL ws (fun j => nB t f k + 3 + j) (nk + 1) = rowL ws (fun j => nB t f k + 3 + j) nk ++ [xk] by rw [rowL_succ, HWG.out _ pk hpl hpk, hxk])
                replace HN := hide (show nk ≤ 4294967296 by omega)
                have hpkN : pk < N0 := by have := HWL.out; omega
                have HPK := hide hpk
                clear hpk hxk hpl hn64 hni
                have way : inn = false ∨ (inn = true ∧ 0 < (i : Int)) := by cases inn; exact .inl rfl; exact .inr ⟨rfl, by have : i ≠ 0 := fun h => hp ⟨rfl, h⟩; omega⟩
                clear hp
                rcases way with hw | ⟨hw, hip⟩
                · rw [hw] at mn
                  have HW := hide hw
                  clear hw
                  go_wp2_with fail
                  clear mn
                  refine wp_region_heldZ [14] (fun w' => w'.cell? ⟨gc + 1 + 1, 1, none⟩ = some (.slice A1 nk c1) ∧ w'.cell? ⟨g, pk, none⟩ = some (.int .u64 xk) ∧ w'.cell? ⟨gc, 0, none⟩ = some (.int .i64 s) ∧ w'.cell? ⟨gc, 1, none⟩ = some (.int .i64 t) ∧ w'.cell? ⟨gc, 2, none⟩ = some (.int .i64 f) ∧ w'.cell? ⟨gc, 3, none⟩ = some (.int .i64 l) ∧ w'.cell? ⟨gc, 4, none⟩ = some (.int .i64 p)) (by kernel_rfl) (by exact ⟨bn.cell 1, ATK.out _ rb, bc.cell 0, bc.cell 1, bc.cell 2, bc.cell 3, bc.cell 4⟩) (fun hHeld => ?_)
                  replace bn := bn.drew
                  replace bc := bc.drew
                  replace br := br.drew
                  replace o1 := o1.drew
                  replace o2 := o2.drew
                  replace rb := (show RefOk _ g ws from Blk.drew rb)
                  replace hb := hb.drew
                  replace HL := hide (show gc + 3 ≤ w9.drew.heap.size from HL.out)
                  generalize w9.drew = w1d at *
                  refine' wpAnyZ_takeA (i := 0) (v := ?_) (opAt rfl) (by kernel_rfl) (by kernel_rfl) (by kernel_rfl) (by kernel_rfl) (fun _ _ _ h => h) (by assumption) (by rfl) (fun w hSw => ?_) ?_
                  rotate_left
                  · (try dsimp only at hSw); go_simp; (try with_reducible rfl)
                  try simp only [Act.put, List.setIfInBounds_toArray, List.set_cons_zero, List.set_cons_succ]
                  refine' wpAnyZ_takeA (i := 1) (v := ?_) (opAt rfl) (by kernel_rfl) (by kernel_rfl) (by kernel_rfl) (by kernel_rfl) (fun _ _ _ h => h) (by assumption) (by rfl) (fun w hSw => ?_) ?_
                  rotate_left
                  · (try dsimp only at hSw); go_simp; (try with_reducible rfl)
                  try simp only [Act.put, List.setIfInBounds_toArray, List.set_cons_zero, List.set_cons_succ]
                  refine' wpAnyZ_takeA (i := 2) (v := ?_) (opAt rfl) (by kernel_rfl) (by kernel_rfl) (by kernel_rfl) (by kernel_rfl) (fun _ _ _ h => h) (by assumption) (by rfl) (fun w hSw => ?_) ?_
                  rotate_left
                  · (try dsimp only at hSw); go_simp; (try with_reducible rfl)
                  try simp only [Act.put, List.setIfInBounds_toArray, List.set_cons_zero, List.set_cons_succ]
                  refine' wpAnyZ_takeA (i := 3) (v := ?_) (opAt rfl) (by kernel_rfl) (by kernel_rfl) (by kernel_rfl) (by kernel_rfl) (fun _ _ _ h => h) (by assumption) (by rfl) (fun w hSw => ?_) ?_
                  rotate_left
                  · (try dsimp only at hSw); go_simp; (try with_reducible rfl)
                  try simp only [Act.put, List.setIfInBounds_toArray, List.set_cons_zero, List.set_cons_succ]
                  refine' wpAnyZ_takeA (i := 4) (v := ?_) (opAt rfl) (by kernel_rfl) (by kernel_rfl) (by kernel_rfl) (by kernel_rfl) (fun _ _ _ h => h) (by assumption) (by rfl) (fun w hSw => ?_) ?_
                  rotate_left
                  · (try dsimp only at hSw); go_simp; (try with_reducible rfl)
                  try simp only [Act.put, List.setIfInBounds_toArray, List.set_cons_zero, List.set_cons_succ]
                  refine' wpAnyZ_takeA (i := 5) (v := ?_) (opAt rfl) (by kernel_rfl) (by kernel_rfl) (by kernel_rfl) (by kernel_rfl) (fun _ _ _ h => h) (by assumption) (by rfl) (fun w hSw => ?_) ?_
                  rotate_left
                  · (try dsimp only at hSw); go_simp; (try with_reducible rfl)
                  try simp only [Act.put, List.setIfInBounds_toArray, List.set_cons_zero, List.set_cons_succ]
                  refine' wpAnyZ_takeA (i := 6) (v := ?_) (opAt rfl) (by kernel_rfl) (by kernel_rfl) (by kernel_rfl) (by kernel_rfl) (fun _ _ _ h => h) (by assumption) (by rfl) (fun w hSw => ?_) ?_
                  rotate_left
                  · (try dsimp only at hSw); go_simp; (try with_reducible rfl)
                  try simp only [Act.put, List.setIfInBounds_toArray, List.set_cons_zero, List.set_cons_succ]
                  refine' wpAnyZ_takeA (i := 7) (v := ?_) (opAt rfl) (by kernel_rfl) (by kernel_rfl) (by kernel_rfl) (by kernel_rfl) (fun _ _ _ h => h) (by assumption) (by rfl) (fun w hSw => ?_) ?_
                  rotate_left
                  · (try dsimp only at hSw); go_simp; (try with_reducible rfl)
                  try simp only [Act.put, List.setIfInBounds_toArray, List.set_cons_zero, List.set_cons_succ]
                  refine wpAnyZ_ready (rs := [8]) (by kernel_rfl) (by simp) ?_
                  refine AllReadyZ.cons (opAt rfl) (fun K hK => ?_) ?_
                  · skip
                    go_simp
                    refine (CK.out _).mono ?_
                    rintro e wa ⟨rfl, hb1⟩
                    replace bn := bn.below hb1 bn.lt
                    replace bc := bc.below hb1 bc.lt
                    replace br := br.below hb1 br.lt
                    replace rb := rb.below hb1
                    replace o1 := own_below o1 hb1
                    replace o2 := own_below o2 hb1
                    replace hb := hb.trans (hb1.mono (Nat.le_trans (Nat.le_add_right _ 3) HL.out))
                    replace HL := hide (Nat.le_trans HL.out hb1.size)
                    clear hb1
                    try go_wp2_with fail
                    refine hK.out _ _ (by exact ⟨bn.cell 1, ATK.out _ rb, bc.cell 0, bc.cell 1, bc.cell 2, bc.cell 3, bc.cell 4⟩) (fun hHeld => ?_)
                    clear hK K
                    try simp only [Act.put, List.setIfInBounds_toArray, List.set_cons_zero, List.set_cons_succ]
                    refine' wpAnyZ_takeA (i := 9) (v := ?_) (opAt rfl) (by kernel_rfl) (by kernel_rfl) (by kernel_rfl) (by kernel_rfl) (fun _ _ _ h => h) (by assumption) (by rfl) (fun w hSw => ?_) ?_
                    rotate_left
                    · (try dsimp only at hSw); go_simp; (try with_reducible rfl)
                    try simp only [Act.put, List.setIfInBounds_toArray, List.set_cons_zero, List.set_cons_succ]
                    refine' wpAnyZ_takeA (i := 10) (v := ?_) (opAt rfl) (by kernel_rfl) (by kernel_rfl) (by kernel_rfl) (by kernel_rfl) (fun _ _ _ h => h) (by assumption) (by rfl) (fun w hSw => ?_) ?_
                    rotate_left
                    · (try dsimp only at hSw); go_simp; (try with_reducible rfl)
                    try simp only [Act.put, List.setIfInBounds_toArray, List.set_cons_zero, List.set_cons_succ]
                    refine wpAnyZ_ready (rs := [11]) (by kernel_rfl) (by simp) ?_
                    refine AllReadyZ.cons (opAt rfl) (fun K hK => ?_) ?_
                    · skip
                      go_simp
                      replace bn := bn.alloc (.cells #[.int .u64 xk] 32)
                      replace bc := bc.alloc (.cells #[.int .u64 xk] 32)
                      replace br := br.alloc (.cells #[.int .u64 xk] 32)
                      replace o1 := o1.alloc (.cells #[.int .u64 xk] 32)
                      replace o2 := o2.alloc (.cells #[.int .u64 xk] 32)
                      replace rb := (show RefOk _ g ws from Blk.alloc rb (.cells #[.int .u64 xk] 32))
                      have bk := Blk.new wa 32 #[.int .u64 xk]
                      replace hb := hb.alloc (Nat.le_trans (Nat.le_add_right _ 3) HL.out) (.cells #[.int .u64 xk] 32)
                      replace HL := hide (Nat.le_trans HL.out (show wa.heap.size ≤ (wa.alloc (.cells #[.int .u64 xk] 32)).heap.size by rw [World.size_alloc]; exact Nat.le_succ _))
                      generalize wa.alloc (.cells #[.int .u64 xk] 32) = wb at *
                      refine hK.out _ _ (by exact ⟨bn.cell 1, ATK.out _ rb, bc.cell 0, bc.cell 1, bc.cell 2, bc.cell 3, bc.cell 4⟩) (fun hHeld => ?_)
                      clear hK K
                      try simp only [Act.put, List.setIfInBounds_toArray, List.set_cons_zero, List.set_cons_succ]
                      refine wpAnyZ_ready (rs := [12]) (by kernel_rfl) (by simp) ?_
                      refine AllReadyZ.cons (opAt rfl) (fun K hK => ?_) ?_
                      · skip
                        skip
                        refine step_append_one (by rfl) (.tmp 70) (.tmp 80) _ (by rfl) (gc + 3) 32 i0 _ 1 8 Tryd.underlying29 hi0 hz0 hs0 hb0 rfl (by decide) (by decide) _ (nk) _ (by rfl) o1 _ #[.int .u64 xk] (by rfl) bk rfl rfl HN.out HL.out ?_
                        intro A1' c1' wc o1' hg_ hat_
                        replace bn := blk_appended bn o1 hg_ (by omega)
                        replace bc := blk_appended bc o1 hg_ (by omega)
                        replace br := blk_appended br o1 hg_ (by omega)
                        replace rb := (show RefOk _ g ws from blk_appended rb o1 hg_ (by have := HGG.out; omega))
                        replace hb := below_appended hb o1 hg_ (by omega) (Nat.le_trans (Nat.le_add_right _ 3) HL.out)
                        obtain ⟨ho', ha'⟩ := push_row (v' := .slice A1' ((nk) + 1) c1') o2 ha hg_ hat_
                        replace o2 := ho'
                        replace ha := ha'
                        clear ho' ha'
                        replace HL := hide (Nat.le_trans HL.out hg_.size)
                        clear o1 hg_ hat_ bk
                        refine hK.out _ _ (by exact ⟨bn.cell 1, ATK.out _ rb, bc.cell 0, bc.cell 1, bc.cell 2, bc.cell 3, bc.cell 4⟩) (fun hHeld => ?_)
                        clear hK K
                        try simp only [Act.put, List.setIfInBounds_toArray, List.set_cons_zero, List.set_cons_succ]
                        refine' wpAnyZ_takeA (i := 13) (v := ?_) (opAt rfl) (by kernel_rfl) (by kernel_rfl) (by kernel_rfl) (by kernel_rfl) (fun _ _ _ h => h) (by assumption) (by rfl) (fun w hSw => ?_) ?_
                        rotate_left
                        · (try dsimp only at hSw); go_simp; (try with_reducible rfl)
                        try simp only [Act.put, List.setIfInBounds_toArray, List.set_cons_zero, List.set_cons_succ]
                        refine wpAnyZ_ready (rs := [14]) (by kernel_rfl) (by simp) ?_
                        refine AllReadyZ.last (opAt rfl) (by kernel_rfl) (fun K hK => ?_) ?_
                        · skip
                          have zo := fun i => bn.frozen i
                          go_simp
                          refine hK.out _ _ ?_
                          clear hK K
                          try simp only [Act.put, List.setIfInBounds_toArray, List.set_cons_zero, List.set_cons_succ]
                          refine wpAnyZ_done (by kernel_rfl) ?_ _
                          have o1 := own_setT o1' bn (by decide) 1 (.slice A1' (nk + 1) c1')
                          replace o2 := own_setT o2 bn (by decide) 1 (.slice A1' (nk + 1) c1')
                          replace bn := bn.setK (.slice A1' (nk + 1) c1')
                          replace bc := bc.far (p := ⟨gc + 1 + 1, 1, none⟩) (by show gc ≠ gc + 1 + 1; omega) (.slice A1' (nk + 1) c1')
                          replace br := br.far (p := ⟨gc + 1 + 1, 1, none⟩) (by show gc + 1 ≠ gc + 1 + 1; omega) (.slice A1' (nk + 1) c1')
                          replace rb := refok_far rb (p := ⟨gc + 1 + 1, 1, none⟩) (by have := HGG.out; show g ≠ gc + 1 + 1; omega) (.slice A1' (nk + 1) c1')
                          replace hb := hb.setCell (p := ⟨gc + 1 + 1, 1, none⟩) (by show gc ≤ gc + 1 + 1; omega) (.slice A1' (nk + 1) c1')
                          replace HL := hide (show gc + 3 ≤ (wc.setCell ⟨gc + 1 + 1, 1, none⟩ (.slice A1' (nk + 1) c1')).heap.size by rw [World.size_setCell]; exact HL.out)
                          generalize wc.setCell ⟨gc + 1 + 1, 1, none⟩ (.slice A1' (nk + 1) c1') = w9 at *
                          clear zo
                          go_wp2_with fail
                          go_roundw
                          case measure => simp [intOf]; omega
                          case rel => exact ⟨i + 1, A1', c1', A2', c2', by go_num, by omega, ⟨by rw [E.out]; exact bn, by rw [E.out, HK2.out, ints_append]; exact o1, by rw [HV2.out, ints_append]; exact o2, by rw [E.out]; exact ha, bc, br, rb, hb, HL.out⟩⟩
                        exact AllReadyZ.nil
                      exact AllReadyZ.nil
                    exact AllReadyZ.nil
                  exact AllReadyZ.nil
                · rw [hw] at mn
                  have HW := hide hw
                  clear hw
                  go_wp2_with fail
                  clear mn
                  refine wp_region_heldZ [14] (fun w' => w'.cell? ⟨gc + 1 + 1, 1, none⟩ = some (.slice A1 nk c1) ∧ w'.cell? ⟨g, pk, none⟩ = some (.int .u64 xk) ∧ w'.cell? ⟨gc, 0, none⟩ = some (.int .i64 s) ∧ w'.cell? ⟨gc, 1, none⟩ = some (.int .i64 t) ∧ w'.cell? ⟨gc, 2, none⟩ = some (.int .i64 f) ∧ w'.cell? ⟨gc, 3, none⟩ = some (.int .i64 l) ∧ w'.cell? ⟨gc, 4, none⟩ = some (.int .i64 p)) (by kernel_rfl) (by exact ⟨bn.cell 1, ATK.out _ rb, bc.cell 0, bc.cell 1, bc.cell 2, bc.cell 3, bc.cell 4⟩) (fun hHeld => ?_)
                  replace bn := bn.drew
                  replace bc := bc.drew
                  replace br := br.drew
                  replace o1 := o1.drew
                  replace o2 := o2.drew
                  replace rb := (show RefOk _ g ws from Blk.drew rb)
                  replace hb := hb.drew
                  replace HL := hide (show gc + 3 ≤ w9.drew.heap.size from HL.out)
                  generalize w9.drew = w1d at *
                  refine' wpAnyZ_takeA (i := 0) (v := ?_) (opAt rfl) (by kernel_rfl) (by kernel_rfl) (by kernel_rfl) (by kernel_rfl) (fun _ _ _ h => h) (by assumption) (by rfl) (fun w hSw => ?_) ?_
                  rotate_left
                  · (try dsimp only at hSw); go_simp; (try with_reducible rfl)
                  try simp only [Act.put, List.setIfInBounds_toArray, List.set_cons_zero, List.set_cons_succ]
                  refine' wpAnyZ_takeA (i := 1) (v := ?_) (opAt rfl) (by kernel_rfl) (by kernel_rfl) (by kernel_rfl) (by kernel_rfl) (fun _ _ _ h => h) (by assumption) (by rfl) (fun w hSw => ?_) ?_
                  rotate_left
                  · (try dsimp only at hSw); go_simp; (try with_reducible rfl)
                  try simp only [Act.put, List.setIfInBounds_toArray, List.set_cons_zero, List.set_cons_succ]
                  refine' wpAnyZ_takeA (i := 2) (v := ?_) (opAt rfl) (by kernel_rfl) (by kernel_rfl) (by kernel_rfl) (by kernel_rfl) (fun _ _ _ h => h) (by assumption) (by rfl) (fun w hSw => ?_) ?_
                  rotate_left
                  · (try dsimp only at hSw); go_simp; (try with_reducible rfl)
                  try simp only [Act.put, List.setIfInBounds_toArray, List.set_cons_zero, List.set_cons_succ]
                  refine' wpAnyZ_takeA (i := 3) (v := ?_) (opAt rfl) (by kernel_rfl) (by kernel_rfl) (by kernel_rfl) (by kernel_rfl) (fun _ _ _ h => h) (by assumption) (by rfl) (fun w hSw => ?_) ?_
                  rotate_left
                  · (try dsimp only at hSw); go_simp; (try with_reducible rfl)
                  try simp only [Act.put, List.setIfInBounds_toArray, List.set_cons_zero, List.set_cons_succ]
                  refine' wpAnyZ_takeA (i := 4) (v := ?_) (opAt rfl) (by kernel_rfl) (by kernel_rfl) (by kernel_rfl) (by kernel_rfl) (fun _ _ _ h => h) (by assumption) (by rfl) (fun w hSw => ?_) ?_
                  rotate_left
                  · (try dsimp only at hSw); go_simp; (try with_reducible rfl)
                  try simp only [Act.put, List.setIfInBounds_toArray, List.set_cons_zero, List.set_cons_succ]
                  refine' wpAnyZ_takeA (i := 5) (v := ?_) (opAt rfl) (by kernel_rfl) (by kernel_rfl) (by kernel_rfl) (by kernel_rfl) (fun _ _ _ h => h) (by assumption) (by rfl) (fun w hSw => ?_) ?_
                  rotate_left
                  · (try dsimp only at hSw); go_simp; (try with_reducible rfl)
                  try simp only [Act.put, List.setIfInBounds_toArray, List.set_cons_zero, List.set_cons_succ]
                  refine' wpAnyZ_takeA (i := 6) (v := ?_) (opAt rfl) (by kernel_rfl) (by kernel_rfl) (by kernel_rfl) (by kernel_rfl) (fun _ _ _ h => h) (by assumption) (by rfl) (fun w hSw => ?_) ?_
                  rotate_left
                  · (try dsimp only at hSw); go_simp; (try with_reducible rfl)
                  try simp only [Act.put, List.setIfInBounds_toArray, List.set_cons_zero, List.set_cons_succ]
                  refine' wpAnyZ_takeA (i := 7) (v := ?_) (opAt rfl) (by kernel_rfl) (by kernel_rfl) (by kernel_rfl) (by kernel_rfl) (fun _ _ _ h => h) (by assumption) (by rfl) (fun w hSw => ?_) ?_
                  rotate_left
                  · (try dsimp only at hSw); go_simp; (try with_reducible rfl)
                  try simp only [Act.put, List.setIfInBounds_toArray, List.set_cons_zero, List.set_cons_succ]
                  refine wpAnyZ_ready (rs := [8]) (by kernel_rfl) (by simp) ?_
                  refine AllReadyZ.cons (opAt rfl) (fun K hK => ?_) ?_
                  · skip
                    go_simp
                    refine (CK.out _).mono ?_
                    rintro e wa ⟨rfl, hb1⟩
                    replace bn := bn.below hb1 bn.lt
                    replace bc := bc.below hb1 bc.lt
                    replace br := br.below hb1 br.lt
                    replace rb := rb.below hb1
                    replace o1 := own_below o1 hb1
                    replace o2 := own_below o2 hb1
                    replace hb := hb.trans (hb1.mono (Nat.le_trans (Nat.le_add_right _ 3) HL.out))
                    replace HL := hide (Nat.le_trans HL.out hb1.size)
                    clear hb1
                    try go_wp2_with fail
                    refine hK.out _ _ (by exact ⟨bn.cell 1, ATK.out _ rb, bc.cell 0, bc.cell 1, bc.cell 2, bc.cell 3, bc.cell 4⟩) (fun hHeld => ?_)
                    clear hK K
                    try simp only [Act.put, List.setIfInBounds_toArray, List.set_cons_zero, List.set_cons_succ]
                    refine' wpAnyZ_takeA (i := 9) (v := ?_) (opAt rfl) (by kernel_rfl) (by kernel_rfl) (by kernel_rfl) (by kernel_rfl) (fun _ _ _ h => h) (by assumption) (by rfl) (fun w hSw => ?_) ?_
                    rotate_left
                    · (try dsimp only at hSw); go_simp; (try with_reducible rfl)
                    try simp only [Act.put, List.setIfInBounds_toArray, List.set_cons_zero, List.set_cons_succ]
                    refine' wpAnyZ_takeA (i := 10) (v := ?_) (opAt rfl) (by kernel_rfl) (by kernel_rfl) (by kernel_rfl) (by kernel_rfl) (fun _ _ _ h => h) (by assumption) (by rfl) (fun w hSw => ?_) ?_
                    rotate_left
                    · (try dsimp only at hSw); go_simp; (try with_reducible rfl)
                    try simp only [Act.put, List.setIfInBounds_toArray, List.set_cons_zero, List.set_cons_succ]
                    refine wpAnyZ_ready (rs := [11]) (by kernel_rfl) (by simp) ?_
                    refine AllReadyZ.cons (opAt rfl) (fun K hK => ?_) ?_
                    · skip
                      go_simp
                      replace bn := bn.alloc (.cells #[.int .u64 xk] 32)
                      replace bc := bc.alloc (.cells #[.int .u64 xk] 32)
                      replace br := br.alloc (.cells #[.int .u64 xk] 32)
                      replace o1 := o1.alloc (.cells #[.int .u64 xk] 32)
                      replace o2 := o2.alloc (.cells #[.int .u64 xk] 32)
                      replace rb := (show RefOk _ g ws from Blk.alloc rb (.cells #[.int .u64 xk] 32))
                      have bk := Blk.new wa 32 #[.int .u64 xk]
                      replace hb := hb.alloc (Nat.le_trans (Nat.le_add_right _ 3) HL.out) (.cells #[.int .u64 xk] 32)
                      replace HL := hide (Nat.le_trans HL.out (show wa.heap.size ≤ (wa.alloc (.cells #[.int .u64 xk] 32)).heap.size by rw [World.size_alloc]; exact Nat.le_succ _))
                      generalize wa.alloc (.cells #[.int .u64 xk] 32) = wb at *
                      refine hK.out _ _ (by exact ⟨bn.cell 1, ATK.out _ rb, bc.cell 0, bc.cell 1, bc.cell 2, bc.cell 3, bc.cell 4⟩) (fun hHeld => ?_)
                      clear hK K
                      try simp only [Act.put, List.setIfInBounds_toArray, List.set_cons_zero, List.set_cons_succ]
                      refine wpAnyZ_ready (rs := [12]) (by kernel_rfl) (by simp) ?_
                      refine AllReadyZ.cons (opAt rfl) (fun K hK => ?_) ?_
                      · skip
                        skip
                        refine step_append_one (by rfl) (.tmp 70) (.tmp 80) _ (by rfl) (gc + 3) 32 i0 _ 1 8 Tryd.underlying29 hi0 hz0 hs0 hb0 rfl (by decide) (by decide) _ (nk) _ (by rfl) o1 _ #[.int .u64 xk] (by rfl) bk rfl rfl HN.out HL.out ?_
                        intro A1' c1' wc o1' hg_ hat_
                        replace bn := blk_appended bn o1 hg_ (by omega)
                        replace bc := blk_appended bc o1 hg_ (by omega)
                        replace br := blk_appended br o1 hg_ (by omega)
                        replace rb := (show RefOk _ g ws from blk_appended rb o1 hg_ (by have := HGG.out; omega))
                        replace hb := below_appended hb o1 hg_ (by omega) (Nat.le_trans (Nat.le_add_right _ 3) HL.out)
                        obtain ⟨ho', ha'⟩ := push_row (v' := .slice A1' ((nk) + 1) c1') o2 ha hg_ hat_
                        replace o2 := ho'
                        replace ha := ha'
                        clear ho' ha'
                        replace HL := hide (Nat.le_trans HL.out hg_.size)
                        clear o1 hg_ hat_ bk
                        refine hK.out _ _ (by exact ⟨bn.cell 1, ATK.out _ rb, bc.cell 0, bc.cell 1, bc.cell 2, bc.cell 3, bc.cell 4⟩) (fun hHeld => ?_)
                        clear hK K
                        try simp only [Act.put, List.setIfInBounds_toArray, List.set_cons_zero, List.set_cons_succ]
                        refine' wpAnyZ_takeA (i := 13) (v := ?_) (opAt rfl) (by kernel_rfl) (by kernel_rfl) (by kernel_rfl) (by kernel_rfl) (fun _ _ _ h => h) (by assumption) (by rfl) (fun w hSw => ?_) ?_
                        rotate_left
                        · (try dsimp only at hSw); go_simp; (try with_reducible rfl)
                        try simp only [Act.put, List.setIfInBounds_toArray, List.set_cons_zero, List.set_cons_succ]
                        refine wpAnyZ_ready (rs := [14]) (by kernel_rfl) (by simp) ?_
                        refine AllReadyZ.last (opAt rfl) (by kernel_rfl) (fun K hK => ?_) ?_
                        · skip
                          have zo := fun i => bn.frozen i
                          go_simp
                          refine hK.out _ _ ?_
                          clear hK K
                          try simp only [Act.put, List.setIfInBounds_toArray, List.set_cons_zero, List.set_cons_succ]
                          refine wpAnyZ_done (by kernel_rfl) ?_ _
                          have o1 := own_setT o1' bn (by decide) 1 (.slice A1' (nk + 1) c1')
                          replace o2 := own_setT o2 bn (by decide) 1 (.slice A1' (nk + 1) c1')
                          replace bn := bn.setK (.slice A1' (nk + 1) c1')
                          replace bc := bc.far (p := ⟨gc + 1 + 1, 1, none⟩) (by show gc ≠ gc + 1 + 1; omega) (.slice A1' (nk + 1) c1')
                          replace br := br.far (p := ⟨gc + 1 + 1, 1, none⟩) (by show gc + 1 ≠ gc + 1 + 1; omega) (.slice A1' (nk + 1) c1')
                          replace rb := refok_far rb (p := ⟨gc + 1 + 1, 1, none⟩) (by have := HGG.out; show g ≠ gc + 1 + 1; omega) (.slice A1' (nk + 1) c1')
                          replace hb := hb.setCell (p := ⟨gc + 1 + 1, 1, none⟩) (by show gc ≤ gc + 1 + 1; omega) (.slice A1' (nk + 1) c1')
                          replace HL := hide (show gc + 3 ≤ (wc.setCell ⟨gc + 1 + 1, 1, none⟩ (.slice A1' (nk + 1) c1')).heap.size by rw [World.size_setCell]; exact HL.out)
                          generalize wc.setCell ⟨gc + 1 + 1, 1, none⟩ (.slice A1' (nk + 1) c1') = w9 at *
                          clear zo
                          go_wp2_with fail
                          go_roundw
                          case measure => simp [intOf]; omega
                          case rel => exact ⟨i + 1, A1', c1', A2', c2', by go_num, by omega, ⟨by rw [E.out]; exact bn, by rw [E.out, HK2.out, ints_append]; exact o1, by rw [HV2.out, ints_append]; exact o2, by rw [E.out]; exact ha, bc, br, rb, hb, HL.out⟩⟩
                        exact AllReadyZ.nil
                      exact AllReadyZ.nil
                    exact AllReadyZ.nil
                  exact AllReadyZ.nil
            exact AllReadyZ.nil
          exact AllReadyZ.nil
        exact AllReadyZ.nil
      exact AllReadyZ.nil
    · have hiN : i = N := by omega
      have hNi : ¬ (i : Int) < (N : Int) := by omega
      have HIN := hide hiN
      have mn := fun j => bn.cell j
      have zr := fun j => br.frozen j
      have mr := fun j => br.cell j
      clear hlt hiN
      go_wp2_with fail
      have C9 := below_setN (g := gc + 1) hb (by omega) (.bool inn) (.slice A1 (nkOf inn i) c1) (.slice A2 i c2) (.int .u64 lk)
      have p0 := own_setT o1 br (by decide) 0 (.bool inn)
      have r0 := own_setT o2 br (by decide) 0 (.bool inn)
      have x0 := br.set_ 0 (.bool inn)
      have p1 := own_setT p0 x0 (by decide) 1 (.slice A1 (nkOf inn i) c1)
      have r1 := own_setT r0 x0 (by decide) 1 (.slice A1 (nkOf inn i) c1)
      have x1_ := x0.set_ 1 (.slice A1 (nkOf inn i) c1)
      have p2 := own_setT p1 x1_ (by decide) 2 (.slice A2 i c2)
      have r2 := own_setT r1 x1_ (by decide) 2 (.slice A2 i c2)
      have x2 := x1_.set_ 2 (.slice A2 i c2)
      have p3 := own_setT p2 x2 (by decide) 3 (.int .u64 lk)
      have r3 := own_setT r2 x2 (by decide) 3 (.int .u64 lk)
      have x3 := x2.set_ 3 (.int .u64 lk)
      have m9 := fun j => x3.cell j
      clear mn zr mr
      refine bodyPost_ret (v := .agg #[.bool inn, .slice A1 (nkOf inn i) c1, .slice A2 i c2, .int .u64 lk]) (by simp [results, Tryd.results21, go_sem, m9, List.setIfInBounds_toArray]) rfl ⟨⟨_, rfl, ?_⟩, by rw [← HGC.out]; exact C9⟩
      have hNK2 := HNK.out
      rw [HIN.out] at p3 r3 ⊢
      rw [← hNK2] at p3 r3 ⊢
      rw [HKE.out, HVE.out, ← HGC.out]
      exact ⟨_, _, rfl, by show World.ownsRow _ _ _ _ _ _ _; rw [rowL_len]; exact own_mono p3 (by omega), by show World.ownsRow _ _ _ _ _ _ _; rw [rowL_len]; exact own_mono r3 (by omega)⟩
end Go.Proofs.YtegldbhabeoboaaDoor

/-
  gleaningref10.come: the slots that come of a handle, by the reference.
-/
namespace Go.Proofs.YtegldbhabeoboaaDoor
open Go.RowKit

/-- What turns one row, and makes memory. -/
structure RowStep (w w' : World) (v v' : Value) : Prop where
  g : w.grownBy w' v.ownBlock
  at_ : v'.ownBlock = v.ownBlock ∨ ∀ k, v'.ownBlock = some k → w.heap.size ≤ k
theorem RowStep.of_below {w w' : World} {v : Value} (h : Below w.heap.size w w') : RowStep w w' v v := ⟨grown_below h _, .inl rfl⟩
theorem RowStep.trans {a b c : World} {u v x : Value} (h : RowStep a b u v) (k : RowStep b c v x) : RowStep a c u x := by
  refine ⟨⟨k.g.os.trans h.g.os, k.g.tape.trans h.g.tape, k.g.output.trans h.g.output, Nat.le_trans h.g.size k.g.size, fun i hi hn => ?_⟩, ?_⟩
  · refine (k.g.block i (Nat.lt_of_lt_of_le hi h.g.size) (fun e => ?_)).trans (h.g.block i hi hn)
    rcases h.at_ with h1 | h1
    · exact hn (e.trans h1)
    · have := h1 i e.symm
      omega
  · rcases k.at_ with k1 | k1
    · rw [k1]; exact h.at_
    · exact .inr fun j hj => Nat.le_trans h.g.size (k1 j hj)
theorem RowStep.blk {w w' : World} {v v' : Value} {base n s g : Nat} {e T : TypeId} {xs : List Value} {cs : Array Value} (h : RowStep w w' v v') (ho : w.ownsRow base e s v n xs) (hb : Blk w g T cs) (hne : e ≠ T) : Blk w' g T cs :=
  hb.grown h.g (own_blk_ne ho hb hne).symm
theorem own_own_ne {w : World} {B B' n m s s' : Nat} {e e' : TypeId} {v u : Value} {xs ys : List Value} (h : w.ownsRow B e s v n xs) (k : w.ownsRow B' e' s' u m ys) (hne : e ≠ e') : u.ownBlock = none ∨ u.ownBlock ≠ v.ownBlock := by
  rcases k.2 with ⟨k1, _⟩ | ⟨g, cap, cur, k1, _, k2, _⟩
  · exact .inl (by rw [k1]; rfl)
  · refine .inr fun e9 => ?_
    rcases h.2 with ⟨h1, _⟩ | ⟨g', cap', cur', h1, _, h2, _⟩
    · rw [h1, k1] at e9
      simp [Value.ownBlock] at e9
    · rw [h1, k1] at e9
      have e9 : g = g' := by simpa [Value.ownBlock] using e9
      subst e9
      rw [h2] at k2
      injection k2 with k2
      injection k2 with _ k3 _
      exact hne k3
theorem RowStep.own {w w' : World} {v v' u : Value} {B B' n m s s' : Nat} {e e' : TypeId} {xs ys : List Value} (h : RowStep w w' v v') (ho : w.ownsRow B e s v n xs) (k : w.ownsRow B' e' s' u m ys) (hne : e ≠ e') : w'.ownsRow B' e' s' u m ys :=
  k.kept h.g (own_own_ne ho k hne)
theorem RowStep.below0 {w w' : World} {v' : Value} {n c : Nat} (h : RowStep w w' (.slice none n c) v') : Below w.heap.size w w' := ⟨h.g.os, h.g.tape, h.g.output, h.g.size, fun k hk => h.g.block k hk (fun e => by simp [Value.ownBlock] at e)⟩
structure CoW (g : Nat) (base gc gn : Nat) (s t f lm p : Int) (ws : List Int) (cn : Array Value) (Av : Option Addr) (cv : Nat) (vs : List Int) (w : World) (v0 : Value) (L : List Int) (A : Option Addr) (c : Nat) (wr : World) : Prop where
  bc : Blk wr gc 23 #[.int .i64 s, .int .i64 t, .int .i64 f, .int .i64 lm, .int .i64 p]
  bn : Blk wr gn 49 cn
  ov : wr.ownsRow base 32 1 (.slice Av vs.length cv) vs.length (ints .u64 vs)
  rb : RefOk wr g ws
  ol : wr.ownsRow base 3 1 (.slice A L.length c) L.length (ints .i64 L)
  st : RowStep w wr v0 (.slice A L.length c)
def CoZ (o0 : Value) (w1 : World) (o iv : Value) (wr : World) : Prop := o = o0 ∧ iv = .int .i64 0 ∧ w1 = wr
def CoI (g base gc gn : Nat) (s t f lm p : Int) (ws : List Int) (cn : Array Value) (Av : Option Addr) (cv : Nat) (vs : List Int) (w : World) (v0 : Value) (C : Nat → List Int) (o iv : Value) (wr : World) : Prop :=
  ∃ (k : Nat) (q : Int) (A : Option Addr) (c : Nat), iv = .int .i64 q ∧ q = (k : Int) ∧ k ≤ vs.length ∧ o = .slice A (C k).length c ∧ CoW g base gc gn s t f lm p ws cn Av cv vs w v0 (C k) A c wr
set_option maxRecDepth 100000 in
set_option maxHeartbeats 4000000 in
theorem rcome_any (g : Nat) (s t f lm p : Int) (N0 c0 : Nat) (ws : List Int) (hs : 1 ≤ s ∧ s ≤ 1000) (ht : 1 ≤ t ∧ t ≤ 64) (hf : 4 ≤ f ∧ f ≤ 64) (hN0 : laySize s t f = N0) (hl : ws.length = N0) (h64 : AllW64 ws) : ∀ (fuel : Nat) (h : Int) (l : List Int) (A : Option Addr) (c base : Nat) (w : World), W64 h → Nice s l → s.toNat + 1 ≤ l.length + fuel → RefOk w g ws → w.ownsRow base 3 1 (.slice A l.length c) l.length (ints .i64 l) → base ≤ w.heap.size →
    Calls Tryd.prog 71 #[.agg #[.int .i64 s, .int .i64 t, .int .i64 f, .int .i64 lm, .int .i64 p], .slice (some ⟨g, 0, none⟩) N0 c0, .int .u64 h, .slice A l.length c] w fun e w' => ∃ A' c', e = .returned (.slice A' (comeN (ndOf ws t f) s fuel h l).length c') ∧ w'.ownsRow base 3 1 (.slice A' (comeN (ndOf ws t f) s fuel h l).length c') (comeN (ndOf ws t f) s fuel h l).length (ints .i64 (comeN (ndOf ws t f) s fuel h l)) ∧ RowStep w w' (.slice A l.length c) (.slice A' (comeN (ndOf ws t f) s fuel h l).length c') := by
  obtain ⟨i0, hi0, hz0, hs0, hb0⟩ := info_parts infoI10
  intro fuel
  induction fuel with
  | zero =>
    intro h l A c base w _ hN hfu
    have := nice_le hN (by omega)
    omega
  | succ fuel ih =>
    intro h l A c base w hh hN hfu R ho hbase
    have C1 := hide (fun w2 => rhs_any h w2 hh)
    have C2 := hide (fun w2 => rhr_any h s w2 hh)
    have HA := hide (fun w2 (hr : Reads w2 w2.heap.size 1 A l.length (ints .i64 l)) => rhas10_any A l.length c l (hsl h) w2 (by have := nice_le hN (by omega); omega) hr)
    have HCE := hide (show comeN (ndOf ws t f) s (fuel + 1) h l = if hrt h s = true ∧ hsl h ∉ l then (if ((ndOf ws t f) (hsl h)).1 = true then ((ndOf ws t f) (hsl h)).2.foldl (fun l c => comeN (ndOf ws t f) s fuel c l) (l ++ [hsl h]) else l ++ [hsl h]) else l from rfl)
    have HSL := hide (fun hr => hrt_slot (h := h) (s := s) hr)
    have ND := hide (fun (sl : Int) (hsl_ : 1 ≤ sl ∧ sl ≤ s) w2 (R2 : RefOk w2 g ws) => rnode_yes g s t f lm p sl N0 c0 ws w2 hs ht hf (by omega) hN0 hl R2 h64)
    have HV64 := hide (fun sl => (show ∀ x ∈ nodV ws t f sl, W64 x from rowL_w64 h64 _ _))
    have HVL := hide (fun sl => (by have h1 := nodN_le (t := t) (k := sl) h64 hf; have h3 := rowL_len ws (fun i => nB t f sl + 3 + f + i) (nodN ws t f sl); unfold nodV; omega : (nodV ws t f sl).length ≤ 64))
    generalize comeN (ndOf ws t f) s (fuel + 1) h l = lout at *
    generalize hsl h = sl at *
    have HNI := hide hN
    have hll := nice_le hN (by omega)
    have hl2 : l.length ≤ 1000 := by omega
    have HS := hide hs
    have HFU := hide hfu
    have IH := hide ih
    have hlm : l.length ≤ 4294967296 := by omega
    have hgw := hide (Blk.lt R)
    clear hs ht hf hN0 hl h64 hN hfu ih hll hh
    have B0 := (Below.refl w.heap.size w).alloc (Nat.le_refl _) (.cells #[.int .i64 s, .int .i64 t, .int .i64 f, .int .i64 lm, .int .i64 p] 23)
    have bc := Blk.new w 23 #[.int .i64 s, .int .i64 t, .int .i64 f, .int .i64 lm, .int .i64 p]
    have ho0 := ho.alloc (.cells #[.int .i64 s, .int .i64 t, .int .i64 f, .int .i64 lm, .int .i64 p] 23)
    replace R := R.below B0
    have hsz0 : base ≤ (w.alloc (.cells #[.int .i64 s, .int .i64 t, .int .i64 f, .int .i64 lm, .int .i64 p] 23)).heap.size := by rw [World.size_alloc]; omega
    have mc := fun j => bc.cell j
    by_cases hr : ¬ hrt h s = true
    · have hrb : hrt h s = false := by simpa using hr
      have HE := hide (HCE.out.trans (if_neg (fun c => hr c.1)))
      rw [hrb] at C2
      clear hr hrb HCE
      go_enter Tryd.func71, Tryd.ntmps71
      go_wp2_with fail
      refine (C1.out _).mono ?_
      rintro e w1 ⟨rfl, rfl⟩
      go_wp2_with fail
      refine (C2.out _).mono ?_
      rintro e w1 ⟨rfl, rfl⟩
      go_wp2_with fail
      go_ret
      exact ⟨A, c, by rw [HE.out]; rfl, by rw [HE.out]; exact ho0, by rw [HE.out]; exact RowStep.of_below B0⟩
    replace hr : hrt h s = true := by simpa using hr
    rw [hr] at C2
    by_cases hin : sl ∈ l
    · have HE := hide (HCE.out.trans (if_neg (fun c => c.2 hin)))
      have hd : decide (sl ∈ l) = true := by rw [decide_eq_true_iff]; exact hin
      rw [hd] at HA
      clear HCE hin hd
      go_enter Tryd.func71, Tryd.ntmps71
      go_wp2_with fail
      refine (C1.out _).mono ?_
      rintro e w1 ⟨rfl, rfl⟩
      go_wp2_with fail
      refine (C2.out _).mono ?_
      rintro e w1 ⟨rfl, rfl⟩
      go_wp2_with fail
      refine (HA.out _ (Reads.of_own ho0)).mono ?_
      rintro e w1 ⟨rfl, hb1⟩
      go_wp2_with fail
      go_ret
      exact ⟨A, c, by rw [HE.out]; rfl, by rw [HE.out]; exact own_below ho0 hb1, by rw [HE.out]; exact RowStep.of_below (B0.trans (hb1.mono B0.size))⟩
    have HE := hide (HCE.out.trans (if_pos ⟨hr, hin⟩))
    have hd : decide (sl ∈ l) = false := by rw [decide_eq_false_iff_not]; exact hin
    rw [hd] at HA
    have HR := hide (HSL.out hr)
    have HN2 := hide (nice_snoc HNI.out HR.out hin)
    clear HCE hin hr HSL hd
    have NDs := hide (ND.out sl HR.out)
    replace HV64 := hide (HV64.out sl)
    replace HVL := hide (HVL.out sl)
    rw [show ((ndOf ws t f) sl).1 = nodI ws t f sl from rfl, show ((ndOf ws t f) sl).2 = nodV ws t f sl from rfl] at HE
    clear ND
    generalize nodK ws t f sl = ks at *
    generalize nodV ws t f sl = vs at *
    generalize nodL ws t f sl = lk at *
    generalize nodI ws t f sl = inn at *
    go_enter Tryd.func71, Tryd.ntmps71
    go_wp2_with fail
    refine (C1.out _).mono ?_
    rintro e w1 ⟨rfl, rfl⟩
    go_wp2_with fail
    refine (C2.out _).mono ?_
    rintro e w1 ⟨rfl, rfl⟩
    go_wp2_with fail
    generalize w.alloc (.cells #[.int .i64 s, .int .i64 t, .int .i64 f, .int .i64 lm, .int .i64 p] 23) = w0 at *
    refine (HA.out _ (Reads.of_own ho0)).mono ?_
    rintro e w2 ⟨rfl, hb1⟩
    have ho2 := own_below ho0 hb1
    replace bc := bc.below hb1 bc.lt
    replace R := R.below hb1
    have S2 := RowStep.of_below (v := .slice A l.length c) (B0.trans (hb1.mono B0.size))
    have hsz2 := Nat.le_trans hsz0 hb1.size
    clear hb1 ho0 hsz0 mc B0 ho
    go_wp2_with (at_builtin
                 refine wpList_append_one rfl (.tmp 25) (.tmp 27) _ rfl base 3 i0 _ 1 8 Tryd.underlying43 hi0 hz0 hs0 hb0 rfl (by omega) (by omega) (.slice A l.length c) l.length _ rfl (ho2.alloc (.cells #[.int .i64 sl] 3)) w2.heap.size #[.int .i64 sl] rfl (Blk.new _ _ _) rfl rfl hlm (by rw [World.size_alloc]; omega) ?_
                 intro A3 c3 w3 ho3 hg3 hat3
                 have S3 : RowStep w2 w3 (.slice A l.length c) (.slice A3 (l.length + 1) c3) := ⟨grown_trans (World.grownBy_alloc w2 (.cells #[.int .i64 sl] 3) _) hg3, hat3.imp id (fun h k hk => by rw [h] at hk; injection hk with hk; rw [World.size_alloc] at hk; omega)⟩
                 have bc3 := S3.blk ho2 bc (by decide)
                 have R3 : RefOk w3 g ws := S3.blk ho2 R (by decide)
                 have mc3 := fun j => bc3.cell j
                 have hsz3 := Nat.le_trans hsz2 S3.g.size
                 have S4 := S2.trans S3
                 clear hg3 hat3 S3 S2)
    refine (NDs.out _ R3).mono ?_
    rintro e w5 ⟨⟨v, rfl, ⟨kk, uu, rfl, o1, o2⟩⟩, hb1⟩
    obtain ⟨Ak, ck, rfl⟩ := o1.val
    obtain ⟨Av, cv, rfl⟩ := o2.val
    clear o1
    have bg := Blk.new w5 49 #[.bool false, .slice none 0 0, .slice none 0 0, .int .u64 0]
    have zg := fun i => bg.frozen i
    have mg := fun i => bg.cell i
    have B5 := hb1.trans ((Below.refl w5.heap.size w5).alloc (Nat.le_refl _) (.cells #[.bool inn, .slice Ak ks.length ck, .slice Av vs.length cv, .int .u64 lk] 49) |>.mono hb1.size)
    have bn := Blk.new w5 49 #[.bool inn, .slice Ak ks.length ck, .slice Av vs.length cv, .int .u64 lk]
    have ho5 := own_below ho3 B5
    have bc5 := bc3.below B5 bc3.lt
    have R5 := R3.below B5
    have S5 := S4.trans (RowStep.of_below (v := .slice A3 (l.length + 1) c3) B5)
    have ov5 := own_mono (B' := base) (o2.alloc (.cells #[.bool inn, .slice Ak ks.length ck, .slice Av vs.length cv, .int .u64 lk] 49)) hsz3
    have HSZ := hide (Nat.le_trans hsz3 B5.size)
    clear hb1 ho3 bc3 R3 S4 B5 hsz3 hsz2 ho2 bc R o2 mc3
    cases inn with
    | false =>
      replace HE := hide (HE.out.trans (if_neg (by decide)))
      have hlen : l.length + 1 = (l ++ [sl]).length := by simp
      have hints : ints .i64 l ++ [.int .i64 sl] = ints .i64 (l ++ [sl]) := by rw [ints_append]; rfl
      have F9 := hide (And.intro ho5 S5)
      have HLN := hide hlen
      have HIT := hide hints
      clear ho5 S5 ov5 R5 bc5 hlen hints
      go_wp2_with fail
      generalize w5.alloc (.cells #[.bool false, .slice Ak ks.length ck, .slice Av vs.length cv, .int .u64 lk] 49) = w6 at *
      generalize w5.heap.size = gn at *
      clear zg mg bg
      go_loopw [3, 11] (CoZ (.slice A3 (l.length + 1) c3) w6) (fun _ _ _ => 0)
      case atStart => exact ⟨rfl, rfl, rfl⟩
      case round =>
        obtain ⟨rfl, rfl, rfl⟩ := hrel
        have mn := fun j => bn.cell j
        by_cases hv : 0 < vs.length
        · have hv2 : (0 : Int) < (vs.length : Int) := by omega
          go_wp2_with fail
          go_ret
          exact ⟨A3, c3, by rw [HE.out, ← HLN.out]; rfl, by rw [HE.out, ← HLN.out, ← HIT.out]; exact F9.out.1, by rw [HE.out, ← HLN.out]; exact F9.out.2⟩
        · have hv2 : ¬ (0 : Int) < (vs.length : Int) := by omega
          go_wp2_with fail
          go_ret
          exact ⟨A3, c3, by rw [HE.out, ← HLN.out]; rfl, by rw [HE.out, ← HLN.out, ← HIT.out]; exact F9.out.1, by rw [HE.out, ← HLN.out]; exact F9.out.2⟩
    | true =>
      replace HE := hide (HE.out.trans (if_pos rfl))
      have hlen : l.length + 1 = (l ++ [sl]).length := by simp
      have hints : ints .i64 l ++ [.int .i64 sl] = ints .i64 (l ++ [sl]) := by rw [ints_append]; rfl
      rw [hints, hlen] at ho5
      rw [hlen] at S5
      have F9 := hide (And.intro ho5 (And.intro S5 (And.intro ov5 (And.intro R5 bc5))))
      have HL := hide hlen
      clear ho5 S5 ov5 R5 bc5 hints hlen
      go_wp2_with fail
      generalize w5.alloc (.cells #[.bool true, .slice Ak ks.length ck, .slice Av vs.length cv, .int .u64 lk] 49) = w6 at *
      generalize w5.heap.size = gn at *
      clear zg mg bg
      generalize hgc : w.heap.size = gc at *
      replace hgc := hide hgc
      generalize hn1 : l.length + 1 = n1
      replace hn1 := hide hn1
      go_loopw [3, 11] (CoI g base gc gn s t f lm p ws #[.bool true, .slice Ak ks.length ck, .slice Av vs.length cv, .int .u64 lk] Av cv vs w (.slice A l.length c) (comesK (ndOf ws t f) s fuel vs (l ++ [sl]))) (fun _ i _ => vs.length - (intOf i).toNat)
      case atStart => exact ⟨0, 0, A3, c3, rfl, rfl, Nat.zero_le _, by rw [← hn1.out, HL.out]; rfl, ⟨F9.out.2.2.2.2, bn, F9.out.2.2.1, F9.out.2.2.2.1, F9.out.1, F9.out.2.1⟩⟩
      case round =>
        clear bn F9
        obtain ⟨k, q, Aq, cq, rfl, hq, hk, rfl, ⟨bc, bn, ov, rb, ol, st⟩⟩ := hrel
        have HQ := hide hq
        have hq0 : 0 ≤ q := by omega
        have hq64 : q ≤ 64 := by have := HVL.out; omega
        have mn := fun j => bn.cell j
        by_cases hlt : k < vs.length
        · have hlt2 : q < (vs.length : Int) := by omega
          have HLT := hide hlt
          obtain ⟨av, rfl, hkl, z1⟩ := (Reads.of_own ov).word hlt
          have hc64 := hide (HV64.out _ (List.getElem_mem hkl))
          have hn1 := comesK_nice (nd := ndOf ws t f) (s := s) (n := fuel) (vs := vs) HN2.out k hk
          have hfu2 : s.toNat + 1 ≤ (comesK (ndOf ws t f) s fuel vs (l ++ [sl]) k).length + fuel := by
            have h1 := hn1.2
            rw [List.length_append] at h1
            simp only [List.length_singleton] at h1
            have h2 := HFU.out
            omega
          have XC := hide (fun (w2 : World) (R2 : RefOk w2 g ws) (o2 : w2.ownsRow base 3 1 (.slice Aq (comesK (ndOf ws t f) s fuel vs (l ++ [sl]) k).length cq) (comesK (ndOf ws t f) s fuel vs (l ++ [sl]) k).length (ints .i64 (comesK (ndOf ws t f) s fuel vs (l ++ [sl]) k))) (hb2 : base ≤ w2.heap.size) => IH.out vs[k] _ Aq cq base w2 hc64.out hn1.1 hfu2 R2 o2 hb2)
          have HSZr := hide (show base ≤ wr.heap.size from Nat.le_trans (by have := hgc.out; omega) st.g.size)
          have HK := hide (comesK_succ (ndOf ws t f) s fuel vs (l ++ [sl]) k hlt)
          have ZZ := hide (fun (w2 : World) (o2 : w2.ownsRow base 32 1 (.slice (some av) vs.length cv) vs.length (ints .u64 vs)) => (by
            obtain ⟨a9, e9, h9, z9⟩ := (Reads.of_own o2).word hlt
            injection e9 with e9
            subst e9
            rw [show q.toNat = k by omega]
            exact z9 : w2.cell? (av.add q.toNat) = some (.int .u64 vs[k])))
          generalize vs[k] = ck_ at *
          generalize comesK (ndOf ws t f) s fuel vs (l ++ [sl]) k = l1 at *
          clear hq hk hlt z1 hn1 hfu2
          go_wp2_with fail
          clear mn
          refine wp_region_heldZ [] (fun w' => w'.cell? ⟨gc, 0, none⟩ = some (.int .i64 s) ∧ w'.cell? ⟨gc, 1, none⟩ = some (.int .i64 t) ∧ w'.cell? ⟨gc, 2, none⟩ = some (.int .i64 f) ∧ w'.cell? ⟨gc, 3, none⟩ = some (.int .i64 lm) ∧ w'.cell? ⟨gc, 4, none⟩ = some (.int .i64 p) ∧ w'.cell? ⟨gn, 2, none⟩ = some (.slice (some av) vs.length cv) ∧ w'.cell? (av.add q.toNat) = some (.int .u64 ck_)) (by kernel_rfl) (by exact ⟨bc.cell 0, bc.cell 1, bc.cell 2, bc.cell 3, bc.cell 4, bn.cell 2, ZZ.out _ ov⟩) (fun hHeld => ?_)
          replace bc := bc.drew
          replace bn := bn.drew
          replace rb := (show RefOk _ g ws from Blk.drew rb)
          replace ov := (show wr.drew.ownsRow _ _ _ _ _ _ from ov)
          replace ol := (show wr.drew.ownsRow _ _ _ _ _ _ from ol)
          replace st := (show RowStep w wr.drew _ _ from ⟨⟨st.g.os, st.g.tape.trans rfl, st.g.output, st.g.size, st.g.block⟩, st.at_⟩)
          replace HSZr := hide (show base ≤ wr.drew.heap.size from HSZr.out)
          generalize wr.drew = wd at *
          refine' wpAnyZ_takeA (i := 0) (v := ?_) (opAt rfl) (by kernel_rfl) (by kernel_rfl) (by kernel_rfl) (by kernel_rfl) (fun _ _ _ h => h) (by assumption) (by rfl) (fun w hSw => ?_) ?_
          rotate_left
          · (try dsimp only at hSw); go_simp; (try with_reducible rfl)
          try simp only [Act.put, List.setIfInBounds_toArray, List.set_cons_zero, List.set_cons_succ]
          refine' wpAnyZ_takeA (i := 1) (v := ?_) (opAt rfl) (by kernel_rfl) (by kernel_rfl) (by kernel_rfl) (by kernel_rfl) (fun _ _ _ h => h) (by assumption) (by rfl) (fun w hSw => ?_) ?_
          rotate_left
          · (try dsimp only at hSw); go_simp; (try with_reducible rfl)
          try simp only [Act.put, List.setIfInBounds_toArray, List.set_cons_zero, List.set_cons_succ]
          refine' wpAnyZ_takeA (i := 2) (v := ?_) (opAt rfl) (by kernel_rfl) (by kernel_rfl) (by kernel_rfl) (by kernel_rfl) (fun _ _ _ h => h) (by assumption) (by rfl) (fun w hSw => ?_) ?_
          rotate_left
          · (try dsimp only at hSw); go_simp; (try with_reducible rfl)
          try simp only [Act.put, List.setIfInBounds_toArray, List.set_cons_zero, List.set_cons_succ]
          refine' wpAnyZ_takeA (i := 3) (v := ?_) (opAt rfl) (by kernel_rfl) (by kernel_rfl) (by kernel_rfl) (by kernel_rfl) (fun _ _ _ h => h) (by assumption) (by rfl) (fun w hSw => ?_) ?_
          rotate_left
          · (try dsimp only at hSw); go_simp; (try with_reducible rfl)
          try simp only [Act.put, List.setIfInBounds_toArray, List.set_cons_zero, List.set_cons_succ]
          refine' wpAnyZ_takeA (i := 4) (v := ?_) (opAt rfl) (by kernel_rfl) (by kernel_rfl) (by kernel_rfl) (by kernel_rfl) (fun _ _ _ h => h) (by assumption) (by rfl) (fun w hSw => ?_) ?_
          rotate_left
          · (try dsimp only at hSw); go_simp; (try with_reducible rfl)
          try simp only [Act.put, List.setIfInBounds_toArray, List.set_cons_zero, List.set_cons_succ]
          refine' wpAnyZ_takeA (i := 5) (v := ?_) (opAt rfl) (by kernel_rfl) (by kernel_rfl) (by kernel_rfl) (by kernel_rfl) (fun _ _ _ h => h) (by assumption) (by rfl) (fun w hSw => ?_) ?_
          rotate_left
          · (try dsimp only at hSw); go_simp; (try with_reducible rfl)
          try simp only [Act.put, List.setIfInBounds_toArray, List.set_cons_zero, List.set_cons_succ]
          refine' wpAnyZ_takeA (i := 6) (v := ?_) (opAt rfl) (by kernel_rfl) (by kernel_rfl) (by kernel_rfl) (by kernel_rfl) (fun _ _ _ h => h) (by assumption) (by rfl) (fun w hSw => ?_) ?_
          rotate_left
          · (try dsimp only at hSw); go_simp; (try with_reducible rfl)
          try simp only [Act.put, List.setIfInBounds_toArray, List.set_cons_zero, List.set_cons_succ]
          refine' wpAnyZ_takeA (i := 7) (v := ?_) (opAt rfl) (by kernel_rfl) (by kernel_rfl) (by kernel_rfl) (by kernel_rfl) (fun _ _ _ h => h) (by assumption) (by rfl) (fun w hSw => ?_) ?_
          rotate_left
          · (try dsimp only at hSw); go_simp; (try with_reducible rfl)
          try simp only [Act.put, List.setIfInBounds_toArray, List.set_cons_zero, List.set_cons_succ]
          refine wpAnyZ_ready (rs := [8]) (by kernel_rfl) (by simp) ?_
          refine AllReadyZ.cons (opAt rfl) (fun K hK => ?_) ?_
          · skip
            go_simp
            refine (XC.out _ rb ol HSZr.out).mono ?_
            rintro e w8 ⟨A8, c8, rfl, ol8, st8⟩
            replace bc := st8.blk ol bc (by decide)
            replace bn := st8.blk ol bn (by decide)
            replace rb := (show RefOk _ g ws from st8.blk ol rb (by decide))
            replace ov := st8.own ol ov (by decide)
            have st9 := st.trans st8
            clear ol st st8
            try go_wp2_with fail
            refine hK.out _ _ (by exact ⟨bc.cell 0, bc.cell 1, bc.cell 2, bc.cell 3, bc.cell 4, bn.cell 2, ZZ.out _ ov⟩) (fun hHeld => ?_)
            clear hK K
            try simp only [Act.put, List.setIfInBounds_toArray, List.set_cons_zero, List.set_cons_succ]
            refine' wpAnyZ_takeA (i := 9) (v := ?_) (opAt rfl) (by kernel_rfl) (by kernel_rfl) (by kernel_rfl) (by kernel_rfl) (fun _ _ _ h => h) (by assumption) (by rfl) (fun w hSw => ?_) ?_
            rotate_left
            · (try dsimp only at hSw); go_simp; (try with_reducible rfl)
            try simp only [Act.put, List.setIfInBounds_toArray, List.set_cons_zero, List.set_cons_succ]
            refine wpAnyZ_done (by kernel_rfl) ?_ _
            go_wp2_with fail
            go_roundw
            case measure => simp [intOf]; have := HLT.out; have := HQ.out; omega
            case rel => exact ⟨k + 1, q + 1, A8, c8, rfl, by have := HQ.out; omega, HLT.out, by rw [HK.out], by rw [HK.out]; exact ⟨bc, bn, ov, rb, ol8, st9⟩⟩
          exact AllReadyZ.nil
        · have hlt2 : ¬ q < (vs.length : Int) := by omega
          have hkv : k = vs.length := by omega
          have HF := hide (show comesK (ndOf ws t f) s fuel vs (l ++ [sl]) k = lout from by rw [hkv]; exact (comesK_all _ _ _ _ _).trans HE.out.symm)
          rw [HF.out] at ol st
          rw [HF.out]
          have OL := hide (And.intro ol st)
          clear hq hkv hlt ol st
          go_wp2_with fail
          go_ret
          exact ⟨Aq, cq, rfl, OL.out.1, OL.out.2⟩
theorem rtree_any (g : Nat) (s t f lm p : Int) (N0 c0 : Nat) (ws : List Int) (w : World) (hs : 1 ≤ s ∧ s ≤ 1000) (ht : 1 ≤ t ∧ t ≤ 64) (hf : 4 ≤ f ∧ f ≤ 64) (hN0 : laySize s t f = N0) (hl : ws.length = N0) (R : RefOk w g ws) (h64 : AllW64 ws) :
    Calls Tryd.prog 25 #[.agg #[.int .i64 s, .int .i64 t, .int .i64 f, .int .i64 lm, .int .i64 p], .slice (some ⟨g, 0, none⟩) N0 c0] w fun e w' => (∃ A c, e = .returned (.slice A (treeL ws s t f).length c) ∧ w'.ownsRow w.heap.size 3 1 (.slice A (treeL ws s t f).length c) (treeL ws s t f).length (ints .i64 (treeL ws s t f))) ∧ Below w.heap.size w w' := by
  have hbd := nB_bd hs ht hf (sl := 0) (by omega)
  have hsp := size_pos hs ht hf
  obtain ⟨q, hq⟩ : ∃ q : Nat, nB t f 0 + 3 + f + 0 = q := Int.eq_ofNat_of_zero_le (by omega)
  have CV := hide (fun w2 => rval_any s t f lm p 0 0 w2 hs ht hf (by omega) (by omega))
  rw [hq] at CV
  have hqN : q < ws.length := by omega
  have RC := hide (fun w2 (R2 : RefOk w2 g ws) => rcome_any g s t f lm p N0 c0 ws hs ht hf hN0 hl h64 (s.toNat + 1) (wGet ws (nB t f 0 + 3 + f)) [] none 0 w2.heap.size w2 (wGet_w64 h64 _) (nice_nil s) (by simp) R2 (World.ownsRow_nil _ _ _ _) (Nat.le_refl _))
  have AT := hide (fun (w2 : World) (R2 : RefOk w2 g ws) => (by have h := R2.at_ hqN; rw [show ws.getD q 0 = wGet ws (nB t f 0 + 3 + f) by rw [← wGet_at hqN]; congr 1; omega] at h; exact h : w2.cell? ⟨g, q, none⟩ = some (.int .u64 (wGet ws (nB t f 0 + 3 + f)))))
  have HTL := hide (show comeN (ndOf ws t f) s (s.toNat + 1) (wGet ws (nB t f 0 + 3 + f)) [] = treeL ws s t f from rfl)
  rw [HTL.out] at RC
  generalize treeL ws s t f = L at *
  generalize wGet ws (nB t f 0 + 3 + f) = rt at *
  have hN1 : ((N0 : Int) == 0) = false := by simp; omega
  have hqN0 : q < N0 := by omega
  clear hs ht hf hN0 hl h64 hbd hsp hq hqN
  have B0 := (Below.refl w.heap.size w).alloc (Nat.le_refl _) (.cells #[.int .i64 s, .int .i64 t, .int .i64 f, .int .i64 lm, .int .i64 p] 23)
  have bc := Blk.new w 23 #[.int .i64 s, .int .i64 t, .int .i64 f, .int .i64 lm, .int .i64 p]
  have mc := fun j => bc.cell j
  replace R := R.below B0
  go_enter Tryd.func25, Tryd.ntmps25
  go_wp2_with fail
  generalize w.alloc (.cells #[.int .i64 s, .int .i64 t, .int .i64 f, .int .i64 lm, .int .i64 p] 23) = w0 at *
  obtain ⟨gc, hgc⟩ : ∃ gc, gc = w.heap.size := ⟨_, rfl⟩
  rw [← hgc] at bc mc ⊢
  have HGC := hide hgc
  clear hgc
  refine wp_region_heldZ [] (fun w' => w'.cell? ⟨gc, 0, none⟩ = some (.int .i64 s) ∧ w'.cell? ⟨gc, 1, none⟩ = some (.int .i64 t) ∧ w'.cell? ⟨gc, 2, none⟩ = some (.int .i64 f) ∧ w'.cell? ⟨gc, 3, none⟩ = some (.int .i64 lm) ∧ w'.cell? ⟨gc, 4, none⟩ = some (.int .i64 p) ∧ w'.cell? ⟨g, q, none⟩ = some (.int .u64 rt)) (by kernel_rfl) (by exact ⟨bc.cell 0, bc.cell 1, bc.cell 2, bc.cell 3, bc.cell 4, AT.out _ R⟩) (fun hHeld => ?_)
  replace bc := bc.drew
  replace R := (show RefOk _ g ws from Blk.drew R)
  replace B0 := B0.drew
  generalize w0.drew = wd at *
  refine' wpAnyZ_takeA (i := 0) (v := ?_) (opAt rfl) (by kernel_rfl) (by kernel_rfl) (by kernel_rfl) (by kernel_rfl) (fun _ _ _ h => h) (by assumption) (by rfl) (fun w hSw => ?_) ?_
  rotate_left
  · (try dsimp only at hSw); go_simp; (try with_reducible rfl)
  try simp only [Act.put, List.setIfInBounds_toArray, List.set_cons_zero, List.set_cons_succ]
  refine' wpAnyZ_takeA (i := 1) (v := ?_) (opAt rfl) (by kernel_rfl) (by kernel_rfl) (by kernel_rfl) (by kernel_rfl) (fun _ _ _ h => h) (by assumption) (by rfl) (fun w hSw => ?_) ?_
  rotate_left
  · (try dsimp only at hSw); go_simp; (try with_reducible rfl)
  try simp only [Act.put, List.setIfInBounds_toArray, List.set_cons_zero, List.set_cons_succ]
  refine' wpAnyZ_takeA (i := 2) (v := ?_) (opAt rfl) (by kernel_rfl) (by kernel_rfl) (by kernel_rfl) (by kernel_rfl) (fun _ _ _ h => h) (by assumption) (by rfl) (fun w hSw => ?_) ?_
  rotate_left
  · (try dsimp only at hSw); go_simp; (try with_reducible rfl)
  try simp only [Act.put, List.setIfInBounds_toArray, List.set_cons_zero, List.set_cons_succ]
  refine' wpAnyZ_takeA (i := 3) (v := ?_) (opAt rfl) (by kernel_rfl) (by kernel_rfl) (by kernel_rfl) (by kernel_rfl) (fun _ _ _ h => h) (by assumption) (by rfl) (fun w hSw => ?_) ?_
  rotate_left
  · (try dsimp only at hSw); go_simp; (try with_reducible rfl)
  try simp only [Act.put, List.setIfInBounds_toArray, List.set_cons_zero, List.set_cons_succ]
  refine wpAnyZ_ready (rs := [4]) (by kernel_rfl) (by simp) ?_
  refine AllReadyZ.cons (opAt rfl) (fun K hK => ?_) ?_
  · skip
    go_simp
    refine (CV.out _).mono ?_
    rintro e w1 ⟨rfl, hb1⟩
    replace bc := bc.below hb1 bc.lt
    replace R := R.below hb1
    replace B0 := B0.trans (hb1.mono B0.size)
    clear hb1
    try go_wp2_with fail
    refine hK.out _ _ (by exact ⟨bc.cell 0, bc.cell 1, bc.cell 2, bc.cell 3, bc.cell 4, AT.out _ R⟩) (fun hHeld => ?_)
    clear hK K
    try simp only [Act.put, List.setIfInBounds_toArray, List.set_cons_zero, List.set_cons_succ]
    refine' wpAnyZ_takeA (i := 5) (v := ?_) (opAt rfl) (by kernel_rfl) (by kernel_rfl) (by kernel_rfl) (by kernel_rfl) (fun _ _ _ h => h) (by assumption) (by rfl) (fun w hSw => ?_) ?_
    rotate_left
    · (try dsimp only at hSw); go_simp; (try with_reducible rfl)
    try simp only [Act.put, List.setIfInBounds_toArray, List.set_cons_zero, List.set_cons_succ]
    refine' wpAnyZ_takeA (i := 6) (v := ?_) (opAt rfl) (by kernel_rfl) (by kernel_rfl) (by kernel_rfl) (by kernel_rfl) (fun _ _ _ h => h) (by assumption) (by rfl) (fun w hSw => ?_) ?_
    rotate_left
    · (try dsimp only at hSw); go_simp; (try with_reducible rfl)
    try simp only [Act.put, List.setIfInBounds_toArray, List.set_cons_zero, List.set_cons_succ]
    refine wpAnyZ_ready (rs := [7]) (by kernel_rfl) (by simp) ?_
    refine AllReadyZ.cons (opAt rfl) (fun K hK => ?_) ?_
    · skip
      go_simp
      refine (RC.out _ R).mono ?_
      rintro e w2 ⟨A, c, rfl, ol, st⟩
      have hb2 := st.below0
      replace bc := bc.below hb2 bc.lt
      replace R := R.below hb2
      have ol2 := own_mono ol B0.size
      replace B0 := B0.trans (hb2.mono B0.size)
      clear hb2 ol st
      try go_wp2_with fail
      refine hK.out _ _ (by exact ⟨bc.cell 0, bc.cell 1, bc.cell 2, bc.cell 3, bc.cell 4, AT.out _ R⟩) (fun hHeld => ?_)
      clear hK K
      try simp only [Act.put, List.setIfInBounds_toArray, List.set_cons_zero, List.set_cons_succ]
      refine' wpAnyZ_takeA (i := 8) (v := ?_) (opAt rfl) (by kernel_rfl) (by kernel_rfl) (by kernel_rfl) (by kernel_rfl) (fun _ _ _ h => h) (by assumption) (by rfl) (fun w hSw => ?_) ?_
      rotate_left
      · (try dsimp only at hSw); go_simp; (try with_reducible rfl)
      try simp only [Act.put, List.setIfInBounds_toArray, List.set_cons_zero, List.set_cons_succ]
      refine wpAnyZ_done (by kernel_rfl) ?_ _
      go_wp2_with fail
      go_ret
      exact ⟨⟨A, c, rfl, by first | exact ol2 | (rw [HGC.out]; exact ol2)⟩, by first | exact B0 | (rw [HGC.out]; exact B0)⟩
    exact AllReadyZ.nil
  exact AllReadyZ.nil
end Go.Proofs.YtegldbhabeoboaaDoor

/-
  arena.Handle; nodes of slots that there are not.
-/
namespace Go.Proofs.YtegldbhabeoboaaDoor
open Go.RowKit

set_option maxRecDepth 100000 in
set_option maxHeartbeats 4000000 in
theorem ahandle_no (gm gw : Nat) (s t f l p k : Int) (ws : List Int) (w : World) (hs : 1 ≤ s ∧ s ≤ 1000) (ht : 1 ≤ t ∧ t ≤ 64) (hf : 4 ≤ f ∧ f ≤ 64) (hk : k < 1 ∨ s < k) (M : MemOk w gm gw s t f l p ws) :
    Calls Tryd.prog 22 #[.pointer (some ⟨gm, 0, none⟩), .int .i64 k] w fun e w' => e = .returned (.int .u64 0) ∧ Below w.heap.size w w' := by
  obtain ⟨m0, m1, m2, m3, m4⟩ := mem5 M
  by_cases h1 : k < 1
  · clear M hs ht hf hk
    go_enter Tryd.func22, Tryd.ntmps22
    go_wp2_with fail
    go_ret
    exact ⟨rfl, Below.refl _ _⟩
  · have CV := hide (fun w2 => lver_any s t f l p k w2 hs ht hf)
    rw [atpB_6no (hk.imp (fun h => absurd h h1) id)] at CV
    clear M hs ht hf hk
    go_enter Tryd.func22, Tryd.ntmps22
    go_wp2_with fail
    refine (CV.out _).mono ?_
    rintro e w1 ⟨rfl, hb⟩
    go_wp2_with fail
    go_ret
    exact ⟨rfl, hb⟩
theorem ahandle_yes (gm gw : Nat) (s t f l p k : Int) (ws : List Int) (w : World) (hs : 1 ≤ s ∧ s ≤ 1000) (ht : 1 ≤ t ∧ t ≤ 64) (hf : 4 ≤ f ∧ f ≤ 64) (hk : 1 ≤ k ∧ k ≤ s) (M : MemOk w gm gw s t f l p ws) (h64 : AllW64 ws) :
    Calls Tryd.prog 22 #[.pointer (some ⟨gm, 0, none⟩), .int .i64 k] w fun e w' => e = .returned (.int .u64 (hmk (vgen (wGet ws (nB t f k))) k)) ∧ Below w.heap.size w w' := by
  have hbd := nB_bd hs ht hf (sl := k) (by omega)
  have CV := hide (fun w2 => lver_any s t f l p k w2 hs ht hf)
  rw [atpB_6 (by omega)] at CV
  have WD := hide (fun w2 (h : MemOk w2 gm gw s t f l p ws) => word_any gm gw s t f l p (nB t f k) ws w2 h)
  have hx := wGet_w64 h64 (nB t f k)
  have G := hide (fun w2 => vgen_any (wGet ws (nB t f k)) w2 hx)
  have hg : W64 (vgen (wGet ws (nB t f k))) := by obtain ⟨a, b⟩ := hx; unfold vgen; exact ⟨by omega, by omega⟩
  have HM := hide (fun w2 => hnmake_any (vgen (wGet ws (nB t f k))) k w2 hg ⟨by omega, by omega⟩)
  generalize hmk (vgen (wGet ws (nB t f k))) k = r at *
  generalize vgen (wGet ws (nB t f k)) = gn at *
  generalize wGet ws (nB t f k) = x at *
  have h0 : ¬ k < 1 := by omega
  have h2 : ¬ nB t f k < 0 := by omega
  generalize nB t f k = a at *
  clear hs ht hf hk hbd hx hg h64
  obtain ⟨m0, m1, m2, m3, m4⟩ := mem5 M
  go_enter Tryd.func22, Tryd.ntmps22
  go_wp2_with fail
  refine (CV.out _).mono ?_
  rintro e w1 ⟨rfl, hb⟩
  replace M := M.below hb
  clear m0 m1 m2 m3 m4
  obtain ⟨m0, m1, m2, m3, m4⟩ := mem5 M
  go_wp2_with fail
  refine (CV.out _).mono ?_
  rintro e w2 ⟨rfl, hb2⟩
  replace M := M.below hb2
  replace hb := hb.trans (hb2.mono hb.size)
  clear m0 m1 m2 m3 m4 hb2
  go_wp2_with fail
  refine (WD.out _ M).mono ?_
  rintro e w3 ⟨rfl, rfl⟩
  go_wp2_with fail
  refine (G.out _).mono ?_
  rintro e w3 ⟨rfl, rfl⟩
  go_wp2_with fail
  refine (HM.out _).mono ?_
  rintro e w3 ⟨rfl, rfl⟩
  go_wp2_with fail
  go_ret
  exact ⟨rfl, hb⟩
set_option maxRecDepth 100000 in
set_option maxHeartbeats 4000000 in
theorem rnode_none (s t f l p k : Int) (A : Option Addr) (N0 c0 : Nat) (w : World) (h : N0 = 0 ∨ (N0 ≠ 0 ∧ k < 0) ∨ (N0 ≠ 0 ∧ ¬ k < 0 ∧ s < k)) :
    Calls Tryd.prog 21 #[.agg #[.int .i64 s, .int .i64 t, .int .i64 f, .int .i64 l, .int .i64 p], .slice A N0 c0, .int .i64 k] w fun e w' => e = .returned (.agg #[.bool false, .slice none 0 0, .slice none 0 0, .int .u64 0]) ∧ Below w.heap.size w w' := by
  rcases h with h | ⟨h, h1⟩ | ⟨h, h1, h2⟩
  · subst h
    have B0 := (((Below.refl w.heap.size w).alloc (Nat.le_refl _) (.cells #[.int .i64 s, .int .i64 t, .int .i64 f, .int .i64 l, .int .i64 p] 23)).alloc (by simp only [World.size_alloc]; omega) (.cells #[.bool false, .slice none 0 0, .slice none 0 0, .int .u64 0] 49)).alloc (by simp only [World.size_alloc]; omega) (.cells #[.bool false, .slice none 0 0, .slice none 0 0, .int .u64 0] 49)
    have bc := ((Blk.new w 23 #[.int .i64 s, .int .i64 t, .int .i64 f, .int .i64 l, .int .i64 p]).alloc (.cells #[.bool false, .slice none 0 0, .slice none 0 0, .int .u64 0] 49)).alloc (.cells #[.bool false, .slice none 0 0, .slice none 0 0, .int .u64 0] 49)
    have br := (Blk.new (w.alloc (.cells #[.int .i64 s, .int .i64 t, .int .i64 f, .int .i64 l, .int .i64 p] 23)) 49 #[.bool false, .slice none 0 0, .slice none 0 0, .int .u64 0]).alloc (.cells #[.bool false, .slice none 0 0, .slice none 0 0, .int .u64 0] 49)
    have bn := Blk.new ((w.alloc (.cells #[.int .i64 s, .int .i64 t, .int .i64 f, .int .i64 l, .int .i64 p] 23)).alloc (.cells #[.bool false, .slice none 0 0, .slice none 0 0, .int .u64 0] 49)) 49 #[.bool false, .slice none 0 0, .slice none 0 0, .int .u64 0]
    simp only [World.size_alloc] at br bn
    have mc := fun j => bc.cell j
    have mn := fun j => bn.cell j
    have zn := fun j => bn.frozen j
    have mr := fun j => br.cell j
    have zr := fun j => br.frozen j
    go_enter Tryd.func21, Tryd.ntmps21
    go_wp2_with fail
    have m9 := fun j => br.cell j
    clear mc mn zn mr zr
    refine bodyPost_ret (v := .agg #[.bool false, .slice none 0 0, .slice none 0 0, .int .u64 0]) (by simp [results, Tryd.results21, go_sem, m9]) rfl ⟨rfl, B0⟩
  · have q1 : ((N0 : Int) == 0) = false := by simp; omega
    clear h
    have B0 := (((Below.refl w.heap.size w).alloc (Nat.le_refl _) (.cells #[.int .i64 s, .int .i64 t, .int .i64 f, .int .i64 l, .int .i64 p] 23)).alloc (by simp only [World.size_alloc]; omega) (.cells #[.bool false, .slice none 0 0, .slice none 0 0, .int .u64 0] 49)).alloc (by simp only [World.size_alloc]; omega) (.cells #[.bool false, .slice none 0 0, .slice none 0 0, .int .u64 0] 49)
    have bc := ((Blk.new w 23 #[.int .i64 s, .int .i64 t, .int .i64 f, .int .i64 l, .int .i64 p]).alloc (.cells #[.bool false, .slice none 0 0, .slice none 0 0, .int .u64 0] 49)).alloc (.cells #[.bool false, .slice none 0 0, .slice none 0 0, .int .u64 0] 49)
    have br := (Blk.new (w.alloc (.cells #[.int .i64 s, .int .i64 t, .int .i64 f, .int .i64 l, .int .i64 p] 23)) 49 #[.bool false, .slice none 0 0, .slice none 0 0, .int .u64 0]).alloc (.cells #[.bool false, .slice none 0 0, .slice none 0 0, .int .u64 0] 49)
    have bn := Blk.new ((w.alloc (.cells #[.int .i64 s, .int .i64 t, .int .i64 f, .int .i64 l, .int .i64 p] 23)).alloc (.cells #[.bool false, .slice none 0 0, .slice none 0 0, .int .u64 0] 49)) 49 #[.bool false, .slice none 0 0, .slice none 0 0, .int .u64 0]
    simp only [World.size_alloc] at br bn
    have mc := fun j => bc.cell j
    have mn := fun j => bn.cell j
    have zn := fun j => bn.frozen j
    have mr := fun j => br.cell j
    have zr := fun j => br.frozen j
    go_enter Tryd.func21, Tryd.ntmps21
    go_wp2_with fail
    have m9 := fun j => br.cell j
    clear mc mn zn mr zr
    refine bodyPost_ret (v := .agg #[.bool false, .slice none 0 0, .slice none 0 0, .int .u64 0]) (by simp [results, Tryd.results21, go_sem, m9]) rfl ⟨rfl, B0⟩
  · have q1 : ((N0 : Int) == 0) = false := by simp; omega
    clear h
    have B0 := (((Below.refl w.heap.size w).alloc (Nat.le_refl _) (.cells #[.int .i64 s, .int .i64 t, .int .i64 f, .int .i64 l, .int .i64 p] 23)).alloc (by simp only [World.size_alloc]; omega) (.cells #[.bool false, .slice none 0 0, .slice none 0 0, .int .u64 0] 49)).alloc (by simp only [World.size_alloc]; omega) (.cells #[.bool false, .slice none 0 0, .slice none 0 0, .int .u64 0] 49)
    have bc := ((Blk.new w 23 #[.int .i64 s, .int .i64 t, .int .i64 f, .int .i64 l, .int .i64 p]).alloc (.cells #[.bool false, .slice none 0 0, .slice none 0 0, .int .u64 0] 49)).alloc (.cells #[.bool false, .slice none 0 0, .slice none 0 0, .int .u64 0] 49)
    have br := (Blk.new (w.alloc (.cells #[.int .i64 s, .int .i64 t, .int .i64 f, .int .i64 l, .int .i64 p] 23)) 49 #[.bool false, .slice none 0 0, .slice none 0 0, .int .u64 0]).alloc (.cells #[.bool false, .slice none 0 0, .slice none 0 0, .int .u64 0] 49)
    have bn := Blk.new ((w.alloc (.cells #[.int .i64 s, .int .i64 t, .int .i64 f, .int .i64 l, .int .i64 p] 23)).alloc (.cells #[.bool false, .slice none 0 0, .slice none 0 0, .int .u64 0] 49)) 49 #[.bool false, .slice none 0 0, .slice none 0 0, .int .u64 0]
    simp only [World.size_alloc] at br bn
    have mc := fun j => bc.cell j
    have mn := fun j => bn.cell j
    have zn := fun j => bn.frozen j
    have mr := fun j => br.cell j
    have zr := fun j => br.frozen j
    go_enter Tryd.func21, Tryd.ntmps21
    go_wp2_with fail
    have m9 := fun j => br.cell j
    clear mc mn zn mr zr
    refine bodyPost_ret (v := .agg #[.bool false, .slice none 0 0, .slice none 0 0, .int .u64 0]) (by simp [results, Tryd.results21, go_sem, m9]) rfl ⟨rfl, B0⟩
theorem ndo_zero (w : World) (lo : Nat) : NdO w lo (.agg #[.bool false, .slice none 0 0, .slice none 0 0, .int .u64 0]) false [] [] 0 := ⟨_, _, rfl, World.ownsRow_nil _ _ _ _, World.ownsRow_nil _ _ _ _⟩
/-- A node of any slot, as the program and the reference tell it. -/
def NodeSame (gm gw g : Nat) (s t f l p k : Int) (N0 c0 : Nat) (ws : List Int) (b : Bool) (ks vs : List Int) (lk : Int) : Prop :=
  (∀ w2, MemOk w2 gm gw s t f l p ws → Calls Tryd.prog 20 #[.pointer (some ⟨gm, 0, none⟩), .int .i64 k] w2 fun e w' => (∃ v, e = .returned v ∧ NdO w' w2.heap.size v b ks vs lk) ∧ Below w2.heap.size w2 w') ∧
  (∀ w2, RefOk w2 g ws → Calls Tryd.prog 21 #[.agg #[.int .i64 s, .int .i64 t, .int .i64 f, .int .i64 l, .int .i64 p], .slice (some ⟨g, 0, none⟩) N0 c0, .int .i64 k] w2 fun e w' => (∃ v, e = .returned v ∧ NdO w' w2.heap.size v b ks vs lk) ∧ Below w2.heap.size w2 w') ∧ ks.length ≤ 64 ∧ vs.length ≤ 64
theorem node_same (gm gw g : Nat) (s t f l p k : Int) (N0 c0 : Nat) (ws : List Int) (hs : 1 ≤ s ∧ s ≤ 1000) (ht : 1 ≤ t ∧ t ≤ 64) (hf : 4 ≤ f ∧ f ≤ 64) (hN0 : laySize s t f = N0) (hl : ws.length = N0) (h64 : AllW64 ws) :
    ∃ b ks vs lk, NodeSame gm gw g s t f l p k N0 c0 ws b ks vs lk := by
  have hsp := size_pos hs ht hf
  by_cases hk : 0 ≤ k ∧ k ≤ s
  · refine ⟨_, _, _, _, fun w2 M => anode_yes gm gw s t f l p k ws w2 hs ht hf hk M h64, fun w2 R => rnode_yes g s t f l p k N0 c0 ws w2 hs ht hf hk hN0 hl R h64, ?_, ?_⟩
    · have h1 := nodN_le (t := t) (k := k) h64 hf
      have h2 := nodKn_le ws t f k
      unfold nodK
      rw [rowL_len]
      omega
    · have h1 := nodN_le (t := t) (k := k) h64 hf
      unfold nodV
      rw [rowL_len]
      omega
  · refine ⟨false, [], [], 0, fun w2 M => (anode_no gm gw s t f l p k ws w2 hs ht hf (by omega) M).mono fun e w' ⟨he, hb⟩ => ⟨⟨_, he, ndo_zero _ _⟩, hb⟩, fun w2 R => (rnode_none s t f l p k _ N0 c0 w2 (by omega)).mono fun e w' ⟨he, hb⟩ => ⟨⟨_, he, ndo_zero _ _⟩, hb⟩, by simp, by simp⟩
theorem mWri_w64 {ws : List Int} {l : List (Int × Int)} (h : AllW64 ws) (hl : ∀ r ∈ l, W64 r.2) : ∀ k, AllW64 (mWri ws l k)
  | 0 => h
  | k + 1 => wPut_w64 (mWri_w64 h hl k) (by
    by_cases hk : k < l.length
    · rw [show l.getD k (0, 0) = l[k] by simp [List.getD, hk]]
      exact hl _ (List.getElem_mem hk)
    · rw [show l.getD k (0, 0) = (0, 0) by simp [List.getD, Nat.le_of_not_lt hk]]
      exact ⟨by omega, by omega⟩)
theorem mDo_two (ws : List Int) (a n : Int) : (mDo ws 2 a 0 n).2 = wPut ws a n := by
  unfold mDo
  rw [if_neg (by omega), if_pos rfl]
theorem vgen_field (x : Int) (w : World) : (Instr.field 40 (vagg x) 3).run Tryd.prog w = .ok (.int .u64 (vgen x)) w := by kernel_rfl
end Go.Proofs.YtegldbhabeoboaaDoor

/-
  Readings of accesses and of writes: by value, and in slices.
-/
namespace Go.Proofs.YtegldbhabeoboaaDoor
open Go.ChangeShapes Go.WideShapes Go.ChangeAt Go.RowKit Go.Deep

section
variable {H : Type} {enc : TypeId × Value → H} {w : World} {spare : Nat → Bool} {held : Bool} {base : Nat}
set_option maxRecDepth 100000 in
/-- An access by value. -/
theorem open_ask {b0 : Nat} {v : Value} {d : DataW H} {ps : List MemPlace} (hv : Value.okWide Tryd.prog w .any b0 37 v) (h : DataW.Trod enc Tryd.prog w base spare held 37 v d ps) :
    ∃ k a o n, v = .agg #[.int .i64 k, .int .i64 a, .int .u64 o, .int .u64 n] ∧ I64 k ∧ I64 a ∧ W64 o ∧ W64 n := by
  obtain ⟨xs, rfl, hxl, hf⟩ := open_flat Tryd.underlying37 (by kernel_rfl) (by kernel_rfl) hv h
  match xs, hxl with
  | [x0, x1, x2, x3], _ =>
    obtain ⟨y0, n0, z0, e0, g0, _⟩ := hf 0 _ rfl
    obtain ⟨y1, n1, z1, e1, g1, _⟩ := hf 1 _ rfl
    obtain ⟨y2, n2, z2, e2, g2, _⟩ := hf 2 _ rfl
    obtain ⟨y3, n3, z3, e3, g3, _⟩ := hf 3 _ rfl
    obtain ⟨k, h0', _, w0⟩ := DataW.trod_int Tryd.underlying3 g0
    obtain ⟨a, h1', _, w1⟩ := DataW.trod_int Tryd.underlying3 g1
    obtain ⟨o, h2', _, w2⟩ := DataW.trod_int Tryd.underlying32 g2
    obtain ⟨n, h3', _, w3⟩ := DataW.trod_int Tryd.underlying32 g3
    simp at e0 e1 e2 e3 h0' h1' h2' h3'
    exact ⟨k, a, o, n, by rw [e0, e1, e2, e3, h0', h1', h2', h3'], I64.of_wf w0, I64.of_wf w1, W64.of_wf w2, W64.of_wf w3⟩

theorem fld {P : Program} {fs : Array Field} {e : TypeId} {fuel : Nat} {cs : List Value} {y : DataW H × List MemPlace} (he : P.underlying e = some (.struct fs)) (hone : oneCellFields P fs = true) (hl : cs.length = fs.size)
    (hy : DataW.trod enc P w base spare held fuel e cs = some y) (j : Nat) (f : Field) (hj : fs[j]? = some f) : ∃ x n z, cs[j]? = some x ∧ DataW.trod enc P w base spare held n f.type [x] = some z := by
  obtain ⟨ys, m, hn', hy', hlen, hyl, hf⟩ := DataW.trod_struct he hy
  obtain ⟨ho, hk⟩ := hone_of hone j f hj
  have hjl : j < fs.size := (Array.getElem?_eq_some_iff.1 hj).1
  have h1 := hf j f hj
  rw [ho, hk] at h1
  have hone' : (cs.drop j).take 1 = [cs[j]'(by omega)] := by
    rw [List.drop_eq_getElem_cons (by omega)]
    rfl
  rw [hone'] at h1
  have hys : ys[j]? = some (ys[j]'(by omega)) := List.getElem?_eq_getElem (by omega)
  exact ⟨cs[j]'(by omega), m, ys[j]'(by omega), List.getElem?_eq_getElem (by omega), h1.trans hys⟩
set_option maxRecDepth 100000 in
/-- A slice of writes. -/
theorem open_wris {B b0 : Nat} {v : Value} {d : DataW H} {ps : List MemPlace}
    (hv : Value.okWide Tryd.prog w .any b0 24 v) (h : DataW.Trod enc Tryd.prog w base spare held 24 v d ps) (hlt : ∀ p ∈ ps, p.block < B) (hsp : ∀ a, spare a = true) :
    ∃ A len cap l, v = .slice A len cap ∧ len ≤ cap ∧ cap ≤ maxLen ∧ l.length = len ∧ Reads w B 2 A len (recW l) := by
  obtain ⟨A, len, cap, rows, hv, h1, h2, h3, h4, h5⟩ := open_rows (s := 2) Tryd.underlying24 (by kernel_rfl) (by omega) hv h hlt hsp (fun cs => cs.length = 2 → ∃ a n, cs = [.int .i64 a, .int .u64 n]) (fun n cs' z hy _ hl => by
    match cs', hl with
    | [x0, x1], _ =>
      obtain ⟨y0, n0, z0, e0, g0⟩ := fld Tryd.underlying35 (by kernel_rfl) rfl hy 0 _ rfl
      obtain ⟨y1, n1, z1, e1, g1⟩ := fld Tryd.underlying35 (by kernel_rfl) rfl hy 1 _ rfl
      obtain ⟨a, h1', _, w1⟩ := DataW.trod_int Tryd.underlying3 g0
      obtain ⟨o, h2', _, w2⟩ := DataW.trod_int Tryd.underlying32 g1
      simp at e0 e1 h1' h2'
      exact ⟨a, o, by rw [e0, e1, h1', h2']⟩)
  have key : ∀ rows : List (List Value), (∀ r ∈ rows, r.length = 2 ∧ (r.length = 2 → ∃ a n, r = [Value.int .i64 a, .int .u64 n])) → ∃ l : List (Int × Int), l.length = rows.length ∧ recW l = rows.flatten := by
    intro rows
    induction rows with
    | nil => intro _; exact ⟨[], rfl, rfl⟩
    | cons r rows ih =>
      intro h
      obtain ⟨l, e1, e2⟩ := ih (fun r hr => h r (by simp [hr]))
      obtain ⟨h1, h2⟩ := h r (by simp)
      obtain ⟨k, a, rfl⟩ := h2 h1
      exact ⟨(k, a) :: l, by simp [e1], by simp [← e2, recW]⟩
  obtain ⟨l, e1, e2⟩ := key rows h5
  exact ⟨A, len, cap, l, hv, h1, h2, by omega, by rw [e2]; exact h4⟩
end
end Go.Proofs.YtegldbhabeoboaaDoor

