/-
  The document's list of free slots: gleaningref10.Has, gleaningref10.Free.
-/
import Derived.Test.YtlnckjemfabckaaGreatDoorZ3
import Derived.RangeFuncBox
import Derived.RangeFuncLeaves
import Derived.RangeFuncNested
import Derived.Shelf.Abstract
import Derived.WalkKit
import Derived.OwnWalkIn
import Derived.TacticsInMore
import Derived.LoopNIn
import Derived.LoopIn
import Derived.Maps.AppendAt
import Derived.CallsIn
namespace Go.Proofs.YtlnckjemfabckaaGreatDoor
open Go.RowKit

theorem take_snocI (l : List Int) (k : Nat) (hk : k < l.length) : l.take (k + 1) = l.take k ++ [l[k]] := by rw [List.take_add_one, List.getElem?_eq_getElem hk]; rfl
def HasIn (n : Nat) (l : List Int) (x : Int) (w : World) (i : Value) (wr : World) : Prop :=
  ∃ k : Nat, i = .int .i64 k ∧ k ≤ n ∧ Below w.heap.size w wr ∧ x ∉ l.take k
set_option maxRecDepth 100000 in
set_option maxHeartbeats 4000000 in
theorem rhas10_any (A : Option Addr) (n c : Nat) (l : List Int) (x : Int) (w : World) (hn : n ≤ 1000000) (hr : Reads w w.heap.size 1 A n (ints .i64 l)) :
    Calls Tryz.prog 118 #[.slice A n c, .int .i64 x] w fun e w' => e = .returned (.bool (decide (x ∈ l))) ∧ Below w.heap.size w w' := by
  go_enter Tryz.func118, Tryz.ntmps118
  go_wp2_with fail
  go_loopw [5] (HasIn n l x w) (fun i _ => n - (intOf i).toNat)
  case atStart => exact ⟨0, rfl, by omega, Below.refl _ _, by simp⟩
  case round =>
    obtain ⟨k, rfl, hk, hb, hc⟩ := hrel
    have Hc := hide hc
    clear hc
    by_cases hlt : k < n
    · obtain ⟨a, rfl, hkl, z1⟩ := (hr.below hb).word hlt
      have Htk := hide (take_snocI l k hkl)
      have Hmem := hide (List.getElem_mem hkl)
      generalize l[k] = y at *
      by_cases h1 : y = x
      · have HX := hide (show x ∈ l from h1 ▸ Hmem.out)
        have h1' : (y == x) = true := by simpa using h1
        clear h1
        go_wp2_with fail
        go_ret
        exact ⟨by rw [decide_eq_true HX.out]; rfl, hb⟩
      · have h1' : (y == x) = false := beq_eq_false_iff_ne.2 h1
        have H1 := hide h1
        clear h1
        go_wp2_with fail
        go_roundw
        case rel => exact ⟨k + 1, by go_num, by omega, hb, by rw [Htk.out, List.mem_append]; exact fun h => h.elim Hc.out (fun h => H1.out (List.mem_singleton.1 h).symm)⟩
        case measure => simp [intOf]; omega
    · have e : l.take k = l := List.take_of_length_le (by have := hr.lenWord; omega)
      have HX := hide (show x ∉ l from e ▸ Hc.out)
      clear e
      go_wp2_with fail
      go_ret
      exact ⟨by rw [decide_eq_false HX.out]; rfl, hb⟩
def RfIn (g gc : Nat) (ws : List Int) (s t f l p : Int) (nx : Int → Int) (R : List Int × Bool) (w : World) (o i : Value) (wr : World) : Prop :=
  ∃ (x : Int) (q : List Int) (A : Option Addr) (c : Nat), o = .slice A q.length c ∧ i = .int .u64 x ∧ W64 x ∧ Nice s q ∧ frN nx s (s.toNat + 1 - q.length) x q = R ∧
    wr.ownsRow (w.heap.size + 1) 3 1 (.slice A q.length c) q.length (ints .i64 q) ∧ RefOk wr g ws ∧ Blk wr gc 23 #[.int .i64 s, .int .i64 t, .int .i64 f, .int .i64 l, .int .i64 p] ∧ w.heap.size + 1 ≤ wr.heap.size ∧ Below w.heap.size w wr
end Go.Proofs.YtlnckjemfabckaaGreatDoor

/-
  gleaningref10.Node: what a slot's words tell, by the reference.
-/
namespace Go.Proofs.YtlnckjemfabckaaGreatDoor
open Go.RowKit

/-- The keys behind k values. -/
def nkOf (b : Bool) (k : Nat) : Nat := if b = true then k - 1 else k
structure RnW (g gc : Nat) (s t f l p k : Int) (ws : List Int) (inn : Bool) (lk : Int) (w wr : World) (i : Nat) (A1 : Option Addr) (c1 : Nat) (A2 : Option Addr) (c2 : Nat) : Prop where
  bn : Blk wr (gc + 1 + 1) 82 #[.bool inn, .slice A1 (nkOf inn i) c1, .slice A2 i c2, .int .u64 lk]
  o1 : wr.ownsRow (gc + 3) 32 1 (.slice A1 (nkOf inn i) c1) (nkOf inn i) (ints .u64 (rowL ws (fun j => nB t f k + 3 + j) (nkOf inn i)))
  o2 : wr.ownsRow (gc + 3) 32 1 (.slice A2 i c2) i (ints .u64 (rowL ws (fun j => nB t f k + 3 + f + j) i))
  ha : Apart (.slice A1 (nkOf inn i) c1) (.slice A2 i c2)
  bc : Blk wr gc 23 #[.int .i64 s, .int .i64 t, .int .i64 f, .int .i64 l, .int .i64 p]
  br : Blk wr (gc + 1) 82 #[.bool false, .slice none 0 0, .slice none 0 0, .int .u64 0]
  rb : RefOk wr g ws
  hb : Below gc w wr
  hl : gc + 3 ≤ wr.heap.size
def RnI (g gc : Nat) (s t f l p k : Int) (ws : List Int) (inn : Bool) (lk : Int) (N : Nat) (w : World) (iv : Value) (wr : World) : Prop :=
  ∃ (i : Nat) (A1 : Option Addr) (c1 : Nat) (A2 : Option Addr) (c2 : Nat), iv = .int .i64 i ∧ i ≤ N ∧ RnW g gc s t f l p k ws inn lk w wr i A1 c1 A2 c2
theorem Blk.setI {w : World} {g : Nat} {t : TypeId} {a b c d : Value} (h : Blk w g t #[a, b, c, d]) (x : Value) : Blk (w.setCell ⟨g, 0, none⟩ x) g t #[x, b, c, d] := by
  have b9 := h.set_ 0 x
  simpa only [List.setIfInBounds_toArray, List.set_cons_zero, List.set_cons_succ] using b9
theorem Blk.setL {w : World} {g : Nat} {t : TypeId} {a b c d : Value} (h : Blk w g t #[a, b, c, d]) (x : Value) : Blk (w.setCell ⟨g, 3, none⟩ x) g t #[a, b, c, x] := by
  have b9 := h.set_ 3 x
  simpa only [List.setIfInBounds_toArray, List.set_cons_zero, List.set_cons_succ] using b9
theorem refok_far {w : World} {g : Nat} {ws : List Int} (R : RefOk w g ws) {p : Addr} (hp : g ≠ p.block) (v : Value) : RefOk (w.setCell p v) g ws := Blk.far R hp v
set_option maxRecDepth 100000 in
set_option maxHeartbeats 4000000 in
theorem rnode_yes (g : Nat) (s t f l p k : Int) (N0 c0 : Nat) (ws : List Int) (w : World) (hs : 1 ≤ s ∧ s ≤ 1000) (ht : 1 ≤ t ∧ t ≤ 64) (hf : 4 ≤ f ∧ f ≤ 64) (hk : 0 ≤ k ∧ k ≤ s) (hN0 : laySize s t f = N0) (hl : ws.length = N0) (R : RefOk w g ws) (h64 : AllW64 ws) :
    Calls Tryz.prog 49 #[.agg #[.int .i64 s, .int .i64 t, .int .i64 f, .int .i64 l, .int .i64 p], .slice (some ⟨g, 0, none⟩) N0 c0, .int .i64 k] w fun e w' => (∃ v, e = .returned v ∧ NdO w' w.heap.size v (nodI ws t f k) (nodK ws t f k) (nodV ws t f k) (nodL ws t f k)) ∧ Below w.heap.size w w' := by
  obtain ⟨i0, hi0, hz0, hs0, hb0⟩ := info_parts infoU64
  have hbd := nB_bd hs ht hf hk
  have hsp := size_pos hs ht hf
  obtain ⟨q, hq⟩ : ∃ q : Nat, nB t f k = q := Int.eq_ofNat_of_zero_le (by omega)
  have CS := hide (fun w2 => rshp_any s t f l p k w2 hs ht hf hk)
  have CLk := hide (fun w2 => rlnkB_any s t f l p k w2 hs ht hf hk)
  rw [hq] at CS CLk
  have CVa := hide (fun (i : Nat) (hi : i < 64) (pv : Nat) (hp : nB t f k + 3 + f + i = pv) w2 => by have h := rval_any s t f l p k i w2 hs ht hf hk (by omega); rw [hp] at h; exact h)
  have CKa := hide (fun (i : Nat) (hi : i < 64) (pk : Nat) (hp : nB t f k + 3 + i = pk) w2 => by have h := rkey_any s t f l p k i w2 hs ht hf hk (by omega); rw [hp] at h; exact h)
  have EN := hide (fun w2 => rentries_any (wGet ws (nB t f k + 1)) f w2 (wGet_w64 h64 _) ⟨by omega, by omega⟩)
  rw [nodN_eq h64 hf] at EN
  have IN := hide (fun w2 => rinner_any (wGet ws (nB t f k + 1)) w2 (wGet_w64 h64 _))
  rw [show innB (wGet ws (nB t f k + 1)) = nodI ws t f k from rfl] at IN
  have hNf := nodN_le (t := t) (k := k) h64 hf
  have hq2 : q + 2 < ws.length := by omega
  have e1 : ws.getD (q + 1) 0 = wGet ws (nB t f k + 1) := by rw [← wGet_at (by omega), show ((q + 1 : Nat) : Int) = nB t f k + 1 by omega]
  have e2 : ws.getD (q + 2) 0 = nodL ws t f k := by unfold nodL; rw [← wGet_at (by omega), show ((q + 2 : Nat) : Int) = nB t f k + 2 by omega]
  have A1c := hide (fun w2 (h : RefOk w2 g ws) => (by have h2 := h.at_ (j := q + 1) (by omega); rw [e1] at h2; exact h2 : w2.cell? ⟨g, q + 1, none⟩ = some (.int .u64 (wGet ws (nB t f k + 1)))))
  have A2c := hide (fun w2 (h : RefOk w2 g ws) => (by have h2 := h.at_ (j := q + 2) (by omega); rw [e2] at h2; exact h2 : w2.cell? ⟨g, q + 2, none⟩ = some (.int .u64 (nodL ws t f k))))
  have ATT := hide (fun (j : Nat) (hj : j < ws.length) w2 (h : RefOk w2 g ws) => h.at_ hj)
  have HWG := hide (fun (x : Int) (j : Nat) (hj : j < ws.length) (hx : x = j) => (by rw [hx, wGet_at hj] : wGet ws x = ws.getD j 0))
  have HKE := hide (show nodK ws t f k = rowL ws (fun j => nB t f k + 3 + j) (nodKn ws t f k) from rfl)
  have HVE := hide (show nodV ws t f k = rowL ws (fun j => nB t f k + 3 + f + j) (nodN ws t f k) from rfl)
  have HNK := hide (show nodKn ws t f k = nkOf (nodI ws t f k) (nodN ws t f k) from rfl)
  generalize wGet ws (nB t f k + 1) = x1 at *
  generalize nodI ws t f k = inn at *
  generalize nodN ws t f k = N at *
  generalize nodL ws t f k = lk at *
  generalize nodKn ws t f k = NK at *
  generalize nodK ws t f k = ks at *
  generalize nodV ws t f k = vs at *
  have HT := hide (And.intro hs (And.intro ht hf))
  have hbd2 : nB t f k + 3 + 2 * f ≤ N0 := by omega
  have HBD := hide hbd2
  have HNf := hide hNf
  have HQ := hide hq
  have HWL := hide hl
  have HR := hide R
  have HGG := hide (show g < w.heap.size from Blk.lt R)
  have hk0 : 0 ≤ k := hk.1
  have hks : ¬ s < k := by omega
  have hN1 : ((N0 : Int) == 0) = false := by simp; omega
  have hNpos : 0 < N0 := by omega
  have hq1N : q + 1 < N0 := by omega
  have hq2N : q + 2 < N0 := by omega
  have hq1i : ((q : Int) + 1).toNat = q + 1 := by omega
  have hq2i : ((q : Int) + 2).toNat = q + 2 := by omega
  have hq1l : (q : Int) + 1 < (N0 : Int) := by omega
  have hq2l : (q : Int) + 2 < (N0 : Int) := by omega
  have hfi : f ≤ 64 := hf.2
  clear hs ht hf hbd hsp hbd2 hNf hq2 hl hk e1 e2 h64 hN0 hq
  have B0 := (((Below.refl w.heap.size w).alloc (Nat.le_refl _) (.cells #[.int .i64 s, .int .i64 t, .int .i64 f, .int .i64 l, .int .i64 p] 23)).alloc (by simp only [World.size_alloc]; omega) (.cells #[.bool false, .slice none 0 0, .slice none 0 0, .int .u64 0] 82)).alloc (by simp only [World.size_alloc]; omega) (.cells #[.bool false, .slice none 0 0, .slice none 0 0, .int .u64 0] 82)
  have bc := ((Blk.new w 23 #[.int .i64 s, .int .i64 t, .int .i64 f, .int .i64 l, .int .i64 p]).alloc (.cells #[.bool false, .slice none 0 0, .slice none 0 0, .int .u64 0] 82)).alloc (.cells #[.bool false, .slice none 0 0, .slice none 0 0, .int .u64 0] 82)
  have br := (Blk.new (w.alloc (.cells #[.int .i64 s, .int .i64 t, .int .i64 f, .int .i64 l, .int .i64 p] 23)) 82 #[.bool false, .slice none 0 0, .slice none 0 0, .int .u64 0]).alloc (.cells #[.bool false, .slice none 0 0, .slice none 0 0, .int .u64 0] 82)
  have bn := Blk.new ((w.alloc (.cells #[.int .i64 s, .int .i64 t, .int .i64 f, .int .i64 l, .int .i64 p] 23)).alloc (.cells #[.bool false, .slice none 0 0, .slice none 0 0, .int .u64 0] 82)) 82 #[.bool false, .slice none 0 0, .slice none 0 0, .int .u64 0]
  simp only [World.size_alloc] at br bn
  replace R := R.below B0
  have mc := fun j => bc.cell j
  have mn := fun j => bn.cell j
  have zn := fun j => bn.frozen j
  go_enter Tryz.func49, Tryz.ntmps49
  go_wp2_with fail
  have hB0s := B0.size
  generalize (((w.alloc (.cells #[.int .i64 s, .int .i64 t, .int .i64 f, .int .i64 l, .int .i64 p] 23)).alloc (.cells #[.bool false, .slice none 0 0, .slice none 0 0, .int .u64 0] 82)).alloc (.cells #[.bool false, .slice none 0 0, .slice none 0 0, .int .u64 0] 82)) = w0 at *
  obtain ⟨gc, hgc⟩ : ∃ gc, gc = w.heap.size := ⟨_, rfl⟩
  rw [← hgc] at bc br bn mc mn zn HGG ⊢
  have HGC := hide hgc
  clear hgc hB0s
  refine (CS.out _).mono ?_
  rintro e w1 ⟨rfl, hb1⟩
  replace bc := bc.below hb1 bc.lt
  replace br := br.below hb1 br.lt
  replace bn := bn.below hb1 bn.lt
  replace R := R.below hb1
  replace B0 := B0.trans (hb1.mono B0.size)
  clear hb1
  have a1 := A1c.out _ R
  clear mc mn zn
  have mc := fun j => bc.cell j
  have mn := fun j => bn.cell j
  have zn := fun j => bn.frozen j
  go_wp2_with fail
  refine (EN.out _).mono ?_
  rintro e w1a ⟨rfl, rfl⟩
  go_wp2_with fail
  refine (IN.out _).mono ?_
  rintro e w1b ⟨rfl, rfl⟩
  go_wp2_with fail
  clear a1 mc mn zn
  replace bc := bc.far (p := ⟨gc + 1 + 1, 0, none⟩) (by show gc ≠ gc + 1 + 1; omega) (.bool inn)
  replace br := br.far (p := ⟨gc + 1 + 1, 0, none⟩) (by show gc + 1 ≠ gc + 1 + 1; omega) (.bool inn)
  replace R := refok_far R (p := ⟨gc + 1 + 1, 0, none⟩) (by have := HGG.out; show g ≠ gc + 1 + 1; omega) (.bool inn)
  replace B0 := B0.setCell (p := ⟨gc + 1 + 1, 0, none⟩) (by have := HGC.out; show w.heap.size ≤ gc + 1 + 1; omega) (.bool inn)
  replace bn := bn.setI (.bool inn)
  generalize w1.setCell ⟨gc + 1 + 1, 0, none⟩ (.bool inn) = w2 at *
  refine (CLk.out _).mono ?_
  rintro e w3 ⟨rfl, hb1⟩
  replace bc := bc.below hb1 bc.lt
  replace br := br.below hb1 br.lt
  replace bn := bn.below hb1 bn.lt
  replace R := R.below hb1
  replace B0 := B0.trans (hb1.mono B0.size)
  clear hb1
  have a2 := A2c.out _ R
  have mn := fun j => bn.cell j
  have zn := fun j => bn.frozen j
  go_wp2_with fail
  clear a2 mn zn
  replace bc := bc.far (p := ⟨gc + 1 + 1, 3, none⟩) (by show gc ≠ gc + 1 + 1; omega) (.int .u64 lk)
  replace br := br.far (p := ⟨gc + 1 + 1, 3, none⟩) (by show gc + 1 ≠ gc + 1 + 1; omega) (.int .u64 lk)
  replace R := refok_far R (p := ⟨gc + 1 + 1, 3, none⟩) (by have := HGG.out; show g ≠ gc + 1 + 1; omega) (.int .u64 lk)
  replace B0 := B0.setCell (p := ⟨gc + 1 + 1, 3, none⟩) (by have := HGC.out; show w.heap.size ≤ gc + 1 + 1; omega) (.int .u64 lk)
  replace bn := bn.setL (.int .u64 lk)
  generalize w3.setCell ⟨gc + 1 + 1, 3, none⟩ (.int .u64 lk) = w4 at *
  have hl4 : gc + 3 ≤ w4.heap.size := by have := bn.lt; omega
  have HL4 := hide hl4
  have B1 : Below gc w w4 := by rw [HGC.out]; exact B0
  clear hl4 B0 A1c A2c CS CLk EN IN hq1N hq2N hq1i hq2i hq1l hq2l
  go_loopw [10] (RnI g gc s t f l p k ws inn lk N w) (fun i _ => N - (intOf i).toNat)
  case atStart => exact ⟨0, none, 0, none, 0, rfl, Nat.zero_le _, ⟨by rw [show nkOf inn 0 = 0 by unfold nkOf; split <;> rfl]; exact bn, by rw [show nkOf inn 0 = 0 by unfold nkOf; split <;> rfl]; exact World.ownsRow_nil _ _ _ _, World.ownsRow_nil _ _ _ _, by rw [show nkOf inn 0 = 0 by unfold nkOf; split <;> rfl]; exact Apart.nil _, bc, br, R, B1, HL4.out⟩⟩
  case round =>
    clear bc br bn R B1 HL4
    obtain ⟨i, A1, c1, A2, c2, rfl, hi, ⟨bn, o1, o2, ha, bc, br, rb, hb, hl⟩⟩ := hrel
    have HL := hide hl
    clear hl
    by_cases hlt : i < N
    · have hi64 : i < 64 := by have := HNf.out; have := HT.out; omega
      obtain ⟨pv, hpv⟩ : ∃ pv : Nat, nB t f k + 3 + f + i = pv := Int.eq_ofNat_of_zero_le (by have := HQ.out; have := HT.out; omega)
      have CV := hide (CVa.out i hi64 pv hpv)
      have hpl : pv < ws.length := by have := HBD.out; have := HWL.out; have := HNf.out; omega
      obtain ⟨xv, hxv⟩ : ∃ xv, ws.getD pv 0 = xv := ⟨_, rfl⟩
      have ATV := hide (fun (w2 : World) (h : RefOk w2 g ws) => (by have h2 := ATT.out pv hpl w2 h; rw [hxv] at h2; exact h2 : w2.cell? ⟨g, pv, none⟩ = some (.int .u64 xv)))
      have HV2 := hide (show rowL ws (fun j => nB t f k + 3 + f + j) (i + 1) = rowL ws (fun j => nB t f k + 3 + f + j) i ++ [xv] by rw [rowL_succ, HWG.out _ pv hpl hpv, hxv])
      have HN := hide (show i ≤ 4294967296 by omega)
      have hpvN : pv < N0 := by have := HWL.out; omega
      have HPV := hide hpv
      have hlti : (i : Int) < (N : Int) := by omega
      have hi64b : (i : Int) ≤ 64 := by omega
      clear hpv hxv hpl hi64
      generalize hnk : nkOf inn i = nk at *
      have HNK0 := hide hnk
      clear hnk
      go_wp2_with fail
      refine wp_region_heldZ [12] (fun w' => w'.cell? ⟨gc + 1 + 1, 2, none⟩ = some (.slice A2 i c2) ∧ w'.cell? ⟨g, pv, none⟩ = some (.int .u64 xv) ∧ w'.cell? ⟨gc, 0, none⟩ = some (.int .i64 s) ∧ w'.cell? ⟨gc, 1, none⟩ = some (.int .i64 t) ∧ w'.cell? ⟨gc, 2, none⟩ = some (.int .i64 f) ∧ w'.cell? ⟨gc, 3, none⟩ = some (.int .i64 l) ∧ w'.cell? ⟨gc, 4, none⟩ = some (.int .i64 p)) (by kernel_rfl) (by exact ⟨bn.cell 2, ATV.out _ rb, bc.cell 0, bc.cell 1, bc.cell 2, bc.cell 3, bc.cell 4⟩) (fun hHeld => ?_)
      replace bn := bn.drew
      replace bc := bc.drew
      replace br := br.drew
      replace o1 := o1.drew
      replace o2 := o2.drew
      replace rb := (show RefOk _ g ws from Blk.drew rb)
      replace hb := hb.drew
      replace HL := hide (show gc + 3 ≤ wr.drew.heap.size from HL.out)
      generalize wr.drew = w0d at *
      refine' wpAnyZ_takeA (i := 0) (v := ?_) (opAt rfl) (by kernel_rfl) (by kernel_rfl) (by kernel_rfl) (by kernel_rfl) (fun _ _ _ h => h) (by assumption) (by rfl) (fun w hSw => ?_) ?_
      rotate_left
      · (try dsimp only at hSw); go_simp; (try with_reducible rfl)
      try simp only [Act.put, List.setIfInBounds_toArray, List.set_cons_zero, List.set_cons_succ]
      refine' wpAnyZ_takeA (i := 1) (v := ?_) (opAt rfl) (by kernel_rfl) (by kernel_rfl) (by kernel_rfl) (by kernel_rfl) (fun _ _ _ h => h) (by assumption) (by rfl) (fun w hSw => ?_) ?_
      rotate_left
      · (try dsimp only at hSw); go_simp; (try with_reducible rfl)
      try simp only [Act.put, List.setIfInBounds_toArray, List.set_cons_zero, List.set_cons_succ]
      refine' wpAnyZ_takeA (i := 2) (v := ?_) (opAt rfl) (by kernel_rfl) (by kernel_rfl) (by kernel_rfl) (by kernel_rfl) (fun _ _ _ h => h) (by assumption) (by rfl) (fun w hSw => ?_) ?_
      rotate_left
      · (try dsimp only at hSw); go_simp; (try with_reducible rfl)
      try simp only [Act.put, List.setIfInBounds_toArray, List.set_cons_zero, List.set_cons_succ]
      refine' wpAnyZ_takeA (i := 3) (v := ?_) (opAt rfl) (by kernel_rfl) (by kernel_rfl) (by kernel_rfl) (by kernel_rfl) (fun _ _ _ h => h) (by assumption) (by rfl) (fun w hSw => ?_) ?_
      rotate_left
      · (try dsimp only at hSw); go_simp; (try with_reducible rfl)
      try simp only [Act.put, List.setIfInBounds_toArray, List.set_cons_zero, List.set_cons_succ]
      refine' wpAnyZ_takeA (i := 4) (v := ?_) (opAt rfl) (by kernel_rfl) (by kernel_rfl) (by kernel_rfl) (by kernel_rfl) (fun _ _ _ h => h) (by assumption) (by rfl) (fun w hSw => ?_) ?_
      rotate_left
      · (try dsimp only at hSw); go_simp; (try with_reducible rfl)
      try simp only [Act.put, List.setIfInBounds_toArray, List.set_cons_zero, List.set_cons_succ]
      refine' wpAnyZ_takeA (i := 5) (v := ?_) (opAt rfl) (by kernel_rfl) (by kernel_rfl) (by kernel_rfl) (by kernel_rfl) (fun _ _ _ h => h) (by assumption) (by rfl) (fun w hSw => ?_) ?_
      rotate_left
      · (try dsimp only at hSw); go_simp; (try with_reducible rfl)
      try simp only [Act.put, List.setIfInBounds_toArray, List.set_cons_zero, List.set_cons_succ]
      refine wpAnyZ_ready (rs := [6]) (by kernel_rfl) (by simp) ?_
      refine AllReadyZ.cons (opAt rfl) (fun K hK => ?_) ?_
      · skip
        go_simp
        refine (CV.out _).mono ?_
        rintro e wa ⟨rfl, hb1⟩
        replace bn := bn.below hb1 bn.lt
        replace bc := bc.below hb1 bc.lt
        replace br := br.below hb1 br.lt
        replace rb := rb.below hb1
        replace o1 := own_below o1 hb1
        replace o2 := own_below o2 hb1
        replace hb := hb.trans (hb1.mono (Nat.le_trans (Nat.le_add_right _ 3) HL.out))
        replace HL := hide (Nat.le_trans HL.out hb1.size)
        clear hb1
        try go_wp2_with fail
        refine hK.out _ _ (by exact ⟨bn.cell 2, ATV.out _ rb, bc.cell 0, bc.cell 1, bc.cell 2, bc.cell 3, bc.cell 4⟩) (fun hHeld => ?_)
        clear hK K
        try simp only [Act.put, List.setIfInBounds_toArray, List.set_cons_zero, List.set_cons_succ]
        refine' wpAnyZ_takeA (i := 7) (v := ?_) (opAt rfl) (by kernel_rfl) (by kernel_rfl) (by kernel_rfl) (by kernel_rfl) (fun _ _ _ h => h) (by assumption) (by rfl) (fun w hSw => ?_) ?_
        rotate_left
        · (try dsimp only at hSw); go_simp; (try with_reducible rfl)
        try simp only [Act.put, List.setIfInBounds_toArray, List.set_cons_zero, List.set_cons_succ]
        refine' wpAnyZ_takeA (i := 8) (v := ?_) (opAt rfl) (by kernel_rfl) (by kernel_rfl) (by kernel_rfl) (by kernel_rfl) (fun _ _ _ h => h) (by assumption) (by rfl) (fun w hSw => ?_) ?_
        rotate_left
        · (try dsimp only at hSw); go_simp; (try with_reducible rfl)
        try simp only [Act.put, List.setIfInBounds_toArray, List.set_cons_zero, List.set_cons_succ]
        refine wpAnyZ_ready (rs := [9]) (by kernel_rfl) (by simp) ?_
        refine AllReadyZ.cons (opAt rfl) (fun K hK => ?_) ?_
        · skip
          go_simp
          replace bn := bn.alloc (.cells #[.int .u64 xv] 32)
          replace bc := bc.alloc (.cells #[.int .u64 xv] 32)
          replace br := br.alloc (.cells #[.int .u64 xv] 32)
          replace o1 := o1.alloc (.cells #[.int .u64 xv] 32)
          replace o2 := o2.alloc (.cells #[.int .u64 xv] 32)
          replace rb := (show RefOk _ g ws from Blk.alloc rb (.cells #[.int .u64 xv] 32))
          have bk := Blk.new wa 32 #[.int .u64 xv]
          replace hb := hb.alloc (Nat.le_trans (Nat.le_add_right _ 3) HL.out) (.cells #[.int .u64 xv] 32)
          replace HL := hide (Nat.le_trans HL.out (show wa.heap.size ≤ (wa.alloc (.cells #[.int .u64 xv] 32)).heap.size by rw [World.size_alloc]; exact Nat.le_succ _))
          generalize wa.alloc (.cells #[.int .u64 xv] 32) = wb at *
          refine hK.out _ _ (by exact ⟨bn.cell 2, ATV.out _ rb, bc.cell 0, bc.cell 1, bc.cell 2, bc.cell 3, bc.cell 4⟩) (fun hHeld => ?_)
          clear hK K
          try simp only [Act.put, List.setIfInBounds_toArray, List.set_cons_zero, List.set_cons_succ]
          refine wpAnyZ_ready (rs := [10]) (by kernel_rfl) (by simp) ?_
          refine AllReadyZ.cons (opAt rfl) (fun K hK => ?_) ?_
          · skip
            skip
            refine step_append_one (by rfl) (.tmp 51) (.tmp 59) _ (by rfl) (gc + 3) 32 i0 _ 1 8 Tryz.underlying29 hi0 hz0 hs0 hb0 rfl (by decide) (by decide) _ (i) _ (by rfl) o2 _ #[.int .u64 xv] (by rfl) bk rfl rfl HN.out HL.out ?_
            intro A2' c2' wc o2' hg_ hat_
            replace bn := blk_appended bn o2 hg_ (by omega)
            replace bc := blk_appended bc o2 hg_ (by omega)
            replace br := blk_appended br o2 hg_ (by omega)
            replace rb := (show RefOk _ g ws from blk_appended rb o2 hg_ (by have := HGG.out; omega))
            replace hb := below_appended hb o2 hg_ (by omega) (Nat.le_trans (Nat.le_add_right _ 3) HL.out)
            obtain ⟨ho', ha'⟩ := push_row (v' := .slice A2' ((i) + 1) c2') o1 ha.symm hg_ hat_
            replace o1 := ho'
            replace ha := ha'.symm
            clear ho' ha'
            replace HL := hide (Nat.le_trans HL.out hg_.size)
            clear o2 hg_ hat_ bk
            refine hK.out _ _ (by exact ⟨bn.cell 2, ATV.out _ rb, bc.cell 0, bc.cell 1, bc.cell 2, bc.cell 3, bc.cell 4⟩) (fun hHeld => ?_)
            clear hK K
            try simp only [Act.put, List.setIfInBounds_toArray, List.set_cons_zero, List.set_cons_succ]
            refine' wpAnyZ_takeA (i := 11) (v := ?_) (opAt rfl) (by kernel_rfl) (by kernel_rfl) (by kernel_rfl) (by kernel_rfl) (fun _ _ _ h => h) (by assumption) (by rfl) (fun w hSw => ?_) ?_
            rotate_left
            · (try dsimp only at hSw); go_simp; (try with_reducible rfl)
            try simp only [Act.put, List.setIfInBounds_toArray, List.set_cons_zero, List.set_cons_succ]
            refine wpAnyZ_ready (rs := [12]) (by kernel_rfl) (by simp) ?_
            refine AllReadyZ.last (opAt rfl) (by kernel_rfl) (fun K hK => ?_) ?_
            · skip
              have zo := fun i => bn.frozen i
              go_simp
              refine hK.out _ _ ?_
              clear hK K
              try simp only [Act.put, List.setIfInBounds_toArray, List.set_cons_zero, List.set_cons_succ]
              refine wpAnyZ_done (by kernel_rfl) ?_ _
              replace o1 := own_setT o1 bn (by decide) 2 (.slice A2' (i + 1) c2')
              have o2 := own_setT o2' bn (by decide) 2 (.slice A2' (i + 1) c2')
              replace bn := bn.setV (.slice A2' (i + 1) c2')
              replace bc := bc.far (p := ⟨gc + 1 + 1, 2, none⟩) (by show gc ≠ gc + 1 + 1; omega) (.slice A2' (i + 1) c2')
              replace br := br.far (p := ⟨gc + 1 + 1, 2, none⟩) (by show gc + 1 ≠ gc + 1 + 1; omega) (.slice A2' (i + 1) c2')
              replace rb := refok_far rb (p := ⟨gc + 1 + 1, 2, none⟩) (by have := HGG.out; show g ≠ gc + 1 + 1; omega) (.slice A2' (i + 1) c2')
              replace hb := hb.setCell (p := ⟨gc + 1 + 1, 2, none⟩) (by show gc ≤ gc + 1 + 1; omega) (.slice A2' (i + 1) c2')
              replace HL := hide (show gc + 3 ≤ (wc.setCell ⟨gc + 1 + 1, 2, none⟩ (.slice A2' (i + 1) c2')).heap.size by rw [World.size_setCell]; exact HL.out)
              generalize wc.setCell ⟨gc + 1 + 1, 2, none⟩ (.slice A2' (i + 1) c2') = w9 at *
              clear zo
              have mn := fun j => bn.cell j
              by_cases hp : inn = true ∧ i = 0
              · have hi0 : ¬ (0 : Int) < (i : Int) := by omega
                have e : nkOf inn (i + 1) = nk := by rw [← HNK0.out]; unfold nkOf; rw [if_pos hp.1, if_pos hp.1]; omega
                have E := hide e
                have HP := hide hp.1
                rw [hp.1] at mn
                clear e hp
                go_wp2_with fail
                go_roundw
                case measure => simp [intOf]; omega
                case rel => exact ⟨i + 1, A1, c1, A2', c2', by go_num, by omega, ⟨by rw [E.out]; exact bn, by rw [E.out]; exact o1, by rw [HV2.out, ints_append]; exact o2, by rw [E.out]; exact ha, bc, br, rb, hb, HL.out⟩⟩
              · have e : nkOf inn (i + 1) = nk + 1 := by
                  rw [← HNK0.out]
                  unfold nkOf
                  by_cases hb : inn = true
                  · rw [if_pos hb, if_pos hb]; have : i ≠ 0 := fun h => hp ⟨hb, h⟩; omega
                  · rw [if_neg hb, if_neg hb]
                have hni : nk ≤ i := by rw [← HNK0.out]; unfold nkOf; split <;> omega
                have E := hide e
                clear e
                have hn64 : nk < 64 := by have := HNf.out; have := HT.out; omega
                obtain ⟨pk, hpk⟩ : ∃ pk : Nat, nB t f k + 3 + nk = pk := Int.eq_ofNat_of_zero_le (by have := HQ.out; have := HT.out; omega)
                have CK := hide (CKa.out nk hn64 pk hpk)
                have hpl : pk < ws.length := by have := HBD.out; have := HWL.out; have := HNf.out; omega
                obtain ⟨xk, hxk⟩ : ∃ xk, ws.getD pk 0 = xk := ⟨_, rfl⟩
                have ATK := hide (fun (w2 : World) (h : RefOk w2 g ws) => (by have h2 := ATT.out pk hpl w2 h; rw [hxk] at h2; exact h2 : w2.cell? ⟨g, pk, none⟩ = some (.int .u64 xk)))
                have HK2 := hide (show rowL ws (fun j => nB t f k + 3 + j) (nk + 1) = rowL ws (fun j => nB t f k + 3 + j) nk ++ [xk] by rw [rowL_succ, HWG.out _ pk hpl hpk, hxk])
                replace HN := hide (show nk ≤ 4294967296 by omega)
                have hpkN : pk < N0 := by have := HWL.out; omega
                have HPK := hide hpk
                clear hpk hxk hpl hn64 hni
                have way : inn = false ∨ (inn = true ∧ 0 < (i : Int)) := by cases inn; exact .inl rfl; exact .inr ⟨rfl, by have : i ≠ 0 := fun h => hp ⟨rfl, h⟩; omega⟩
                clear hp
                rcases way with hw | ⟨hw, hip⟩
                · rw [hw] at mn
                  have HW := hide hw
                  clear hw
                  go_wp2_with fail
                  clear mn
                  refine wp_region_heldZ [14] (fun w' => w'.cell? ⟨gc + 1 + 1, 1, none⟩ = some (.slice A1 nk c1) ∧ w'.cell? ⟨g, pk, none⟩ = some (.int .u64 xk) ∧ w'.cell? ⟨gc, 0, none⟩ = some (.int .i64 s) ∧ w'.cell? ⟨gc, 1, none⟩ = some (.int .i64 t) ∧ w'.cell? ⟨gc, 2, none⟩ = some (.int .i64 f) ∧ w'.cell? ⟨gc, 3, none⟩ = some (.int .i64 l) ∧ w'.cell? ⟨gc, 4, none⟩ = some (.int .i64 p)) (by kernel_rfl) (by exact ⟨bn.cell 1, ATK.out _ rb, bc.cell 0, bc.cell 1, bc.cell 2, bc.cell 3, bc.cell 4⟩) (fun hHeld => ?_)
                  replace bn := bn.drew
                  replace bc := bc.drew
                  replace br := br.drew
                  replace o1 := o1.drew
                  replace o2 := o2.drew
                  replace rb := (show RefOk _ g ws from Blk.drew rb)
                  replace hb := hb.drew
                  replace HL := hide (show gc + 3 ≤ w9.drew.heap.size from HL.out)
                  generalize w9.drew = w1d at *
                  refine' wpAnyZ_takeA (i := 0) (v := ?_) (opAt rfl) (by kernel_rfl) (by kernel_rfl) (by kernel_rfl) (by kernel_rfl) (fun _ _ _ h => h) (by assumption) (by rfl) (fun w hSw => ?_) ?_
                  rotate_left
                  · (try dsimp only at hSw); go_simp; (try with_reducible rfl)
                  try simp only [Act.put, List.setIfInBounds_toArray, List.set_cons_zero, List.set_cons_succ]
                  refine' wpAnyZ_takeA (i := 1) (v := ?_) (opAt rfl) (by kernel_rfl) (by kernel_rfl) (by kernel_rfl) (by kernel_rfl) (fun _ _ _ h => h) (by assumption) (by rfl) (fun w hSw => ?_) ?_
                  rotate_left
                  · (try dsimp only at hSw); go_simp; (try with_reducible rfl)
                  try simp only [Act.put, List.setIfInBounds_toArray, List.set_cons_zero, List.set_cons_succ]
                  refine' wpAnyZ_takeA (i := 2) (v := ?_) (opAt rfl) (by kernel_rfl) (by kernel_rfl) (by kernel_rfl) (by kernel_rfl) (fun _ _ _ h => h) (by assumption) (by rfl) (fun w hSw => ?_) ?_
                  rotate_left
                  · (try dsimp only at hSw); go_simp; (try with_reducible rfl)
                  try simp only [Act.put, List.setIfInBounds_toArray, List.set_cons_zero, List.set_cons_succ]
                  refine' wpAnyZ_takeA (i := 3) (v := ?_) (opAt rfl) (by kernel_rfl) (by kernel_rfl) (by kernel_rfl) (by kernel_rfl) (fun _ _ _ h => h) (by assumption) (by rfl) (fun w hSw => ?_) ?_
                  rotate_left
                  · (try dsimp only at hSw); go_simp; (try with_reducible rfl)
                  try simp only [Act.put, List.setIfInBounds_toArray, List.set_cons_zero, List.set_cons_succ]
                  refine' wpAnyZ_takeA (i := 4) (v := ?_) (opAt rfl) (by kernel_rfl) (by kernel_rfl) (by kernel_rfl) (by kernel_rfl) (fun _ _ _ h => h) (by assumption) (by rfl) (fun w hSw => ?_) ?_
                  rotate_left
                  · (try dsimp only at hSw); go_simp; (try with_reducible rfl)
                  try simp only [Act.put, List.setIfInBounds_toArray, List.set_cons_zero, List.set_cons_succ]
                  refine' wpAnyZ_takeA (i := 5) (v := ?_) (opAt rfl) (by kernel_rfl) (by kernel_rfl) (by kernel_rfl) (by kernel_rfl) (fun _ _ _ h => h) (by assumption) (by rfl) (fun w hSw => ?_) ?_
                  rotate_left
                  · (try dsimp only at hSw); go_simp; (try with_reducible rfl)
                  try simp only [Act.put, List.setIfInBounds_toArray, List.set_cons_zero, List.set_cons_succ]
                  refine' wpAnyZ_takeA (i := 6) (v := ?_) (opAt rfl) (by kernel_rfl) (by kernel_rfl) (by kernel_rfl) (by kernel_rfl) (fun _ _ _ h => h) (by assumption) (by rfl) (fun w hSw => ?_) ?_
                  rotate_left
                  · (try dsimp only at hSw); go_simp; (try with_reducible rfl)
                  try simp only [Act.put, List.setIfInBounds_toArray, List.set_cons_zero, List.set_cons_succ]
                  refine' wpAnyZ_takeA (i := 7) (v := ?_) (opAt rfl) (by kernel_rfl) (by kernel_rfl) (by kernel_rfl) (by kernel_rfl) (fun _ _ _ h => h) (by assumption) (by rfl) (fun w hSw => ?_) ?_
                  rotate_left
                  · (try dsimp only at hSw); go_simp; (try with_reducible rfl)
                  try simp only [Act.put, List.setIfInBounds_toArray, List.set_cons_zero, List.set_cons_succ]
                  refine wpAnyZ_ready (rs := [8]) (by kernel_rfl) (by simp) ?_
                  refine AllReadyZ.cons (opAt rfl) (fun K hK => ?_) ?_
                  · skip
                    go_simp
                    refine (CK.out _).mono ?_
                    rintro e wa ⟨rfl, hb1⟩
                    replace bn := bn.below hb1 bn.lt
                    replace bc := bc.below hb1 bc.lt
                    replace br := br.below hb1 br.lt
                    replace rb := rb.below hb1
                    replace o1 := own_below o1 hb1
                    replace o2 := own_below o2 hb1
                    replace hb := hb.trans (hb1.mono (Nat.le_trans (Nat.le_add_right _ 3) HL.out))
                    replace HL := hide (Nat.le_trans HL.out hb1.size)
                    clear hb1
                    try go_wp2_with fail
                    refine hK.out _ _ (by exact ⟨bn.cell 1, ATK.out _ rb, bc.cell 0, bc.cell 1, bc.cell 2, bc.cell 3, bc.cell 4⟩) (fun hHeld => ?_)
                    clear hK K
                    try simp only [Act.put, List.setIfInBounds_toArray, List.set_cons_zero, List.set_cons_succ]
                    refine' wpAnyZ_takeA (i := 9) (v := ?_) (opAt rfl) (by kernel_rfl) (by kernel_rfl) (by kernel_rfl) (by kernel_rfl) (fun _ _ _ h => h) (by assumption) (by rfl) (fun w hSw => ?_) ?_
                    rotate_left
                    · (try dsimp only at hSw); go_simp; (try with_reducible rfl)
                    try simp only [Act.put, List.setIfInBounds_toArray, List.set_cons_zero, List.set_cons_succ]
                    refine' wpAnyZ_takeA (i := 10) (v := ?_) (opAt rfl) (by kernel_rfl) (by kernel_rfl) (by kernel_rfl) (by kernel_rfl) (fun _ _ _ h => h) (by assumption) (by rfl) (fun w hSw => ?_) ?_
                    rotate_left
                    · (try dsimp only at hSw); go_simp; (try with_reducible rfl)
                    try simp only [Act.put, List.setIfInBounds_toArray, List.set_cons_zero, List.set_cons_succ]
                    refine wpAnyZ_ready (rs := [11]) (by kernel_rfl) (by simp) ?_
                    refine AllReadyZ.cons (opAt rfl) (fun K hK => ?_) ?_
                    · skip
                      go_simp
                      replace bn := bn.alloc (.cells #[.int .u64 xk] 32)
                      replace bc := bc.alloc (.cells #[.int .u64 xk] 32)
                      replace br := br.alloc (.cells #[.int .u64 xk] 32)
                      replace o1 := o1.alloc (.cells #[.int .u64 xk] 32)
                      replace o2 := o2.alloc (.cells #[.int .u64 xk] 32)
                      replace rb := (show RefOk _ g ws from Blk.alloc rb (.cells #[.int .u64 xk] 32))
                      have bk := Blk.new wa 32 #[.int .u64 xk]
                      replace hb := hb.alloc (Nat.le_trans (Nat.le_add_right _ 3) HL.out) (.cells #[.int .u64 xk] 32)
                      replace HL := hide (Nat.le_trans HL.out (show wa.heap.size ≤ (wa.alloc (.cells #[.int .u64 xk] 32)).heap.size by rw [World.size_alloc]; exact Nat.le_succ _))
                      generalize wa.alloc (.cells #[.int .u64 xk] 32) = wb at *
                      refine hK.out _ _ (by exact ⟨bn.cell 1, ATK.out _ rb, bc.cell 0, bc.cell 1, bc.cell 2, bc.cell 3, bc.cell 4⟩) (fun hHeld => ?_)
                      clear hK K
                      try simp only [Act.put, List.setIfInBounds_toArray, List.set_cons_zero, List.set_cons_succ]
                      refine wpAnyZ_ready (rs := [12]) (by kernel_rfl) (by simp) ?_
                      refine AllReadyZ.cons (opAt rfl) (fun K hK => ?_) ?_
                      · skip
                        skip
                        refine step_append_one (by rfl) (.tmp 70) (.tmp 80) _ (by rfl) (gc + 3) 32 i0 _ 1 8 Tryz.underlying29 hi0 hz0 hs0 hb0 rfl (by decide) (by decide) _ (nk) _ (by rfl) o1 _ #[.int .u64 xk] (by rfl) bk rfl rfl HN.out HL.out ?_
                        intro A1' c1' wc o1' hg_ hat_
                        replace bn := blk_appended bn o1 hg_ (by omega)
                        replace bc := blk_appended bc o1 hg_ (by omega)
                        replace br := blk_appended br o1 hg_ (by omega)
                        replace rb := (show RefOk _ g ws from blk_appended rb o1 hg_ (by have := HGG.out; omega))
                        replace hb := below_appended hb o1 hg_ (by omega) (Nat.le_trans (Nat.le_add_right _ 3) HL.out)
                        obtain ⟨ho', ha'⟩ := push_row (v' := .slice A1' ((nk) + 1) c1') o2 ha hg_ hat_
                        replace o2 := ho'
                        replace ha := ha'
                        clear ho' ha'
                        replace HL := hide (Nat.le_trans HL.out hg_.size)
                        clear o1 hg_ hat_ bk
                        refine hK.out _ _ (by exact ⟨bn.cell 1, ATK.out _ rb, bc.cell 0, bc.cell 1, bc.cell 2, bc.cell 3, bc.cell 4⟩) (fun hHeld => ?_)
                        clear hK K
                        try simp only [Act.put, List.setIfInBounds_toArray, List.set_cons_zero, List.set_cons_succ]
                        refine' wpAnyZ_takeA (i := 13) (v := ?_) (opAt rfl) (by kernel_rfl) (by kernel_rfl) (by kernel_rfl) (by kernel_rfl) (fun _ _ _ h => h) (by assumption) (by rfl) (fun w hSw => ?_) ?_
                        rotate_left
                        · (try dsimp only at hSw); go_simp; (try with_reducible rfl)
                        try simp only [Act.put, List.setIfInBounds_toArray, List.set_cons_zero, List.set_cons_succ]
                        refine wpAnyZ_ready (rs := [14]) (by kernel_rfl) (by simp) ?_
                        refine AllReadyZ.last (opAt rfl) (by kernel_rfl) (fun K hK => ?_) ?_
                        · skip
                          have zo := fun i => bn.frozen i
                          go_simp
                          refine hK.out _ _ ?_
                          clear hK K
                          try simp only [Act.put, List.setIfInBounds_toArray, List.set_cons_zero, List.set_cons_succ]
                          refine wpAnyZ_done (by kernel_rfl) ?_ _
                          have o1 := own_setT o1' bn (by decide) 1 (.slice A1' (nk + 1) c1')
                          replace o2 := own_setT o2 bn (by decide) 1 (.slice A1' (nk + 1) c1')
                          replace bn := bn.setK (.slice A1' (nk + 1) c1')
                          replace bc := bc.far (p := ⟨gc + 1 + 1, 1, none⟩) (by show gc ≠ gc + 1 + 1; omega) (.slice A1' (nk + 1) c1')
                          replace br := br.far (p := ⟨gc + 1 + 1, 1, none⟩) (by show gc + 1 ≠ gc + 1 + 1; omega) (.slice A1' (nk + 1) c1')
                          replace rb := refok_far rb (p := ⟨gc + 1 + 1, 1, none⟩) (by have := HGG.out; show g ≠ gc + 1 + 1; omega) (.slice A1' (nk + 1) c1')
                          replace hb := hb.setCell (p := ⟨gc + 1 + 1, 1, none⟩) (by show gc ≤ gc + 1 + 1; omega) (.slice A1' (nk + 1) c1')
                          replace HL := hide (show gc + 3 ≤ (wc.setCell ⟨gc + 1 + 1, 1, none⟩ (.slice A1' (nk + 1) c1')).heap.size by rw [World.size_setCell]; exact HL.out)
                          generalize wc.setCell ⟨gc + 1 + 1, 1, none⟩ (.slice A1' (nk + 1) c1') = w9 at *
                          clear zo
                          go_wp2_with fail
                          go_roundw
                          case measure => simp [intOf]; omega
                          case rel => exact ⟨i + 1, A1', c1', A2', c2', by go_num, by omega, ⟨by rw [E.out]; exact bn, by rw [E.out, HK2.out, ints_append]; exact o1, by rw [HV2.out, ints_append]; exact o2, by rw [E.out]; exact ha, bc, br, rb, hb, HL.out⟩⟩
                        exact AllReadyZ.nil
                      exact AllReadyZ.nil
                    exact AllReadyZ.nil
                  exact AllReadyZ.nil
                · rw [hw] at mn
                  have HW := hide hw
                  clear hw
                  go_wp2_with fail
                  clear mn
                  refine wp_region_heldZ [14] (fun w' => w'.cell? ⟨gc + 1 + 1, 1, none⟩ = some (.slice A1 nk c1) ∧ w'.cell? ⟨g, pk, none⟩ = some (.int .u64 xk) ∧ w'.cell? ⟨gc, 0, none⟩ = some (.int .i64 s) ∧ w'.cell? ⟨gc, 1, none⟩ = some (.int .i64 t) ∧ w'.cell? ⟨gc, 2, none⟩ = some (.int .i64 f) ∧ w'.cell? ⟨gc, 3, none⟩ = some (.int .i64 l) ∧ w'.cell? ⟨gc, 4, none⟩ = some (.int .i64 p)) (by kernel_rfl) (by exact ⟨bn.cell 1, ATK.out _ rb, bc.cell 0, bc.cell 1, bc.cell 2, bc.cell 3, bc.cell 4⟩) (fun hHeld => ?_)
                  replace bn := bn.drew
                  replace bc := bc.drew
                  replace br := br.drew
                  replace o1 := o1.drew
                  replace o2 := o2.drew
                  replace rb := (show RefOk _ g ws from Blk.drew rb)
                  replace hb := hb.drew
                  replace HL := hide (show gc + 3 ≤ w9.drew.heap.size from HL.out)
                  generalize w9.drew = w1d at *
                  refine' wpAnyZ_takeA (i := 0) (v := ?_) (opAt rfl) (by kernel_rfl) (by kernel_rfl) (by kernel_rfl) (by kernel_rfl) (fun _ _ _ h => h) (by assumption) (by rfl) (fun w hSw => ?_) ?_
                  rotate_left
                  · (try dsimp only at hSw); go_simp; (try with_reducible rfl)
                  try simp only [Act.put, List.setIfInBounds_toArray, List.set_cons_zero, List.set_cons_succ]
                  refine' wpAnyZ_takeA (i := 1) (v := ?_) (opAt rfl) (by kernel_rfl) (by kernel_rfl) (by kernel_rfl) (by kernel_rfl) (fun _ _ _ h => h) (by assumption) (by rfl) (fun w hSw => ?_) ?_
                  rotate_left
                  · (try dsimp only at hSw); go_simp; (try with_reducible rfl)
                  try simp only [Act.put, List.setIfInBounds_toArray, List.set_cons_zero, List.set_cons_succ]
                  refine' wpAnyZ_takeA (i := 2) (v := ?_) (opAt rfl) (by kernel_rfl) (by kernel_rfl) (by kernel_rfl) (by kernel_rfl) (fun _ _ _ h => h) (by assumption) (by rfl) (fun w hSw => ?_) ?_
                  rotate_left
                  · (try dsimp only at hSw); go_simp; (try with_reducible rfl)
                  try simp only [Act.put, List.setIfInBounds_toArray, List.set_cons_zero, List.set_cons_succ]
                  refine' wpAnyZ_takeA (i := 3) (v := ?_) (opAt rfl) (by kernel_rfl) (by kernel_rfl) (by kernel_rfl) (by kernel_rfl) (fun _ _ _ h => h) (by assumption) (by rfl) (fun w hSw => ?_) ?_
                  rotate_left
                  · (try dsimp only at hSw); go_simp; (try with_reducible rfl)
                  try simp only [Act.put, List.setIfInBounds_toArray, List.set_cons_zero, List.set_cons_succ]
                  refine' wpAnyZ_takeA (i := 4) (v := ?_) (opAt rfl) (by kernel_rfl) (by kernel_rfl) (by kernel_rfl) (by kernel_rfl) (fun _ _ _ h => h) (by assumption) (by rfl) (fun w hSw => ?_) ?_
                  rotate_left
                  · (try dsimp only at hSw); go_simp; (try with_reducible rfl)
                  try simp only [Act.put, List.setIfInBounds_toArray, List.set_cons_zero, List.set_cons_succ]
                  refine' wpAnyZ_takeA (i := 5) (v := ?_) (opAt rfl) (by kernel_rfl) (by kernel_rfl) (by kernel_rfl) (by kernel_rfl) (fun _ _ _ h => h) (by assumption) (by rfl) (fun w hSw => ?_) ?_
                  rotate_left
                  · (try dsimp only at hSw); go_simp; (try with_reducible rfl)
                  try simp only [Act.put, List.setIfInBounds_toArray, List.set_cons_zero, List.set_cons_succ]
                  refine' wpAnyZ_takeA (i := 6) (v := ?_) (opAt rfl) (by kernel_rfl) (by kernel_rfl) (by kernel_rfl) (by kernel_rfl) (fun _ _ _ h => h) (by assumption) (by rfl) (fun w hSw => ?_) ?_
                  rotate_left
                  · (try dsimp only at hSw); go_simp; (try with_reducible rfl)
                  try simp only [Act.put, List.setIfInBounds_toArray, List.set_cons_zero, List.set_cons_succ]
                  refine' wpAnyZ_takeA (i := 7) (v := ?_) (opAt rfl) (by kernel_rfl) (by kernel_rfl) (by kernel_rfl) (by kernel_rfl) (fun _ _ _ h => h) (by assumption) (by rfl) (fun w hSw => ?_) ?_
                  rotate_left
                  · (try dsimp only at hSw); go_simp; (try with_reducible rfl)
                  try simp only [Act.put, List.setIfInBounds_toArray, List.set_cons_zero, List.set_cons_succ]
                  refine wpAnyZ_ready (rs := [8]) (by kernel_rfl) (by simp) ?_
                  refine AllReadyZ.cons (opAt rfl) (fun K hK => ?_) ?_
                  · skip
                    go_simp
                    refine (CK.out _).mono ?_
                    rintro e wa ⟨rfl, hb1⟩
                    replace bn := bn.below hb1 bn.lt
                    replace bc := bc.below hb1 bc.lt
                    replace br := br.below hb1 br.lt
                    replace rb := rb.below hb1
                    replace o1 := own_below o1 hb1
                    replace o2 := own_below o2 hb1
                    replace hb := hb.trans (hb1.mono (Nat.le_trans (Nat.le_add_right _ 3) HL.out))
                    replace HL := hide (Nat.le_trans HL.out hb1.size)
                    clear hb1
                    try go_wp2_with fail
                    refine hK.out _ _ (by exact ⟨bn.cell 1, ATK.out _ rb, bc.cell 0, bc.cell 1, bc.cell 2, bc.cell 3, bc.cell 4⟩) (fun hHeld => ?_)
                    clear hK K
                    try simp only [Act.put, List.setIfInBounds_toArray, List.set_cons_zero, List.set_cons_succ]
                    refine' wpAnyZ_takeA (i := 9) (v := ?_) (opAt rfl) (by kernel_rfl) (by kernel_rfl) (by kernel_rfl) (by kernel_rfl) (fun _ _ _ h => h) (by assumption) (by rfl) (fun w hSw => ?_) ?_
                    rotate_left
                    · (try dsimp only at hSw); go_simp; (try with_reducible rfl)
                    try simp only [Act.put, List.setIfInBounds_toArray, List.set_cons_zero, List.set_cons_succ]
                    refine' wpAnyZ_takeA (i := 10) (v := ?_) (opAt rfl) (by kernel_rfl) (by kernel_rfl) (by kernel_rfl) (by kernel_rfl) (fun _ _ _ h => h) (by assumption) (by rfl) (fun w hSw => ?_) ?_
                    rotate_left
                    · (try dsimp only at hSw); go_simp; (try with_reducible rfl)
                    try simp only [Act.put, List.setIfInBounds_toArray, List.set_cons_zero, List.set_cons_succ]
                    refine wpAnyZ_ready (rs := [11]) (by kernel_rfl) (by simp) ?_
                    refine AllReadyZ.cons (opAt rfl) (fun K hK => ?_) ?_
                    · skip
                      go_simp
                      replace bn := bn.alloc (.cells #[.int .u64 xk] 32)
                      replace bc := bc.alloc (.cells #[.int .u64 xk] 32)
                      replace br := br.alloc (.cells #[.int .u64 xk] 32)
                      replace o1 := o1.alloc (.cells #[.int .u64 xk] 32)
                      replace o2 := o2.alloc (.cells #[.int .u64 xk] 32)
                      replace rb := (show RefOk _ g ws from Blk.alloc rb (.cells #[.int .u64 xk] 32))
                      have bk := Blk.new wa 32 #[.int .u64 xk]
                      replace hb := hb.alloc (Nat.le_trans (Nat.le_add_right _ 3) HL.out) (.cells #[.int .u64 xk] 32)
                      replace HL := hide (Nat.le_trans HL.out (show wa.heap.size ≤ (wa.alloc (.cells #[.int .u64 xk] 32)).heap.size by rw [World.size_alloc]; exact Nat.le_succ _))
                      generalize wa.alloc (.cells #[.int .u64 xk] 32) = wb at *
                      refine hK.out _ _ (by exact ⟨bn.cell 1, ATK.out _ rb, bc.cell 0, bc.cell 1, bc.cell 2, bc.cell 3, bc.cell 4⟩) (fun hHeld => ?_)
                      clear hK K
                      try simp only [Act.put, List.setIfInBounds_toArray, List.set_cons_zero, List.set_cons_succ]
                      refine wpAnyZ_ready (rs := [12]) (by kernel_rfl) (by simp) ?_
                      refine AllReadyZ.cons (opAt rfl) (fun K hK => ?_) ?_
                      · skip
                        skip
                        refine step_append_one (by rfl) (.tmp 70) (.tmp 80) _ (by rfl) (gc + 3) 32 i0 _ 1 8 Tryz.underlying29 hi0 hz0 hs0 hb0 rfl (by decide) (by decide) _ (nk) _ (by rfl) o1 _ #[.int .u64 xk] (by rfl) bk rfl rfl HN.out HL.out ?_
                        intro A1' c1' wc o1' hg_ hat_
                        replace bn := blk_appended bn o1 hg_ (by omega)
                        replace bc := blk_appended bc o1 hg_ (by omega)
                        replace br := blk_appended br o1 hg_ (by omega)
                        replace rb := (show RefOk _ g ws from blk_appended rb o1 hg_ (by have := HGG.out; omega))
                        replace hb := below_appended hb o1 hg_ (by omega) (Nat.le_trans (Nat.le_add_right _ 3) HL.out)
                        obtain ⟨ho', ha'⟩ := push_row (v' := .slice A1' ((nk) + 1) c1') o2 ha hg_ hat_
                        replace o2 := ho'
                        replace ha := ha'
                        clear ho' ha'
                        replace HL := hide (Nat.le_trans HL.out hg_.size)
                        clear o1 hg_ hat_ bk
                        refine hK.out _ _ (by exact ⟨bn.cell 1, ATK.out _ rb, bc.cell 0, bc.cell 1, bc.cell 2, bc.cell 3, bc.cell 4⟩) (fun hHeld => ?_)
                        clear hK K
                        try simp only [Act.put, List.setIfInBounds_toArray, List.set_cons_zero, List.set_cons_succ]
                        refine' wpAnyZ_takeA (i := 13) (v := ?_) (opAt rfl) (by kernel_rfl) (by kernel_rfl) (by kernel_rfl) (by kernel_rfl) (fun _ _ _ h => h) (by assumption) (by rfl) (fun w hSw => ?_) ?_
                        rotate_left
                        · (try dsimp only at hSw); go_simp; (try with_reducible rfl)
                        try simp only [Act.put, List.setIfInBounds_toArray, List.set_cons_zero, List.set_cons_succ]
                        refine wpAnyZ_ready (rs := [14]) (by kernel_rfl) (by simp) ?_
                        refine AllReadyZ.last (opAt rfl) (by kernel_rfl) (fun K hK => ?_) ?_
                        · skip
                          have zo := fun i => bn.frozen i
                          go_simp
                          refine hK.out _ _ ?_
                          clear hK K
                          try simp only [Act.put, List.setIfInBounds_toArray, List.set_cons_zero, List.set_cons_succ]
                          refine wpAnyZ_done (by kernel_rfl) ?_ _
                          have o1 := own_setT o1' bn (by decide) 1 (.slice A1' (nk + 1) c1')
                          replace o2 := own_setT o2 bn (by decide) 1 (.slice A1' (nk + 1) c1')
                          replace bn := bn.setK (.slice A1' (nk + 1) c1')
                          replace bc := bc.far (p := ⟨gc + 1 + 1, 1, none⟩) (by show gc ≠ gc + 1 + 1; omega) (.slice A1' (nk + 1) c1')
                          replace br := br.far (p := ⟨gc + 1 + 1, 1, none⟩) (by show gc + 1 ≠ gc + 1 + 1; omega) (.slice A1' (nk + 1) c1')
                          replace rb := refok_far rb (p := ⟨gc + 1 + 1, 1, none⟩) (by have := HGG.out; show g ≠ gc + 1 + 1; omega) (.slice A1' (nk + 1) c1')
                          replace hb := hb.setCell (p := ⟨gc + 1 + 1, 1, none⟩) (by show gc ≤ gc + 1 + 1; omega) (.slice A1' (nk + 1) c1')
                          replace HL := hide (show gc + 3 ≤ (wc.setCell ⟨gc + 1 + 1, 1, none⟩ (.slice A1' (nk + 1) c1')).heap.size by rw [World.size_setCell]; exact HL.out)
                          generalize wc.setCell ⟨gc + 1 + 1, 1, none⟩ (.slice A1' (nk + 1) c1') = w9 at *
                          clear zo
                          go_wp2_with fail
                          go_roundw
                          case measure => simp [intOf]; omega
                          case rel => exact ⟨i + 1, A1', c1', A2', c2', by go_num, by omega, ⟨by rw [E.out]; exact bn, by rw [E.out, HK2.out, ints_append]; exact o1, by rw [HV2.out, ints_append]; exact o2, by rw [E.out]; exact ha, bc, br, rb, hb, HL.out⟩⟩
                        exact AllReadyZ.nil
                      exact AllReadyZ.nil
                    exact AllReadyZ.nil
                  exact AllReadyZ.nil
            exact AllReadyZ.nil
          exact AllReadyZ.nil
        exact AllReadyZ.nil
      exact AllReadyZ.nil
    · have hiN : i = N := by omega
      have hNi : ¬ (i : Int) < (N : Int) := by omega
      have HIN := hide hiN
      have mn := fun j => bn.cell j
      have zr := fun j => br.frozen j
      have mr := fun j => br.cell j
      clear hlt hiN
      go_wp2_with fail
      have C9 := below_setN (g := gc + 1) hb (by omega) (.bool inn) (.slice A1 (nkOf inn i) c1) (.slice A2 i c2) (.int .u64 lk)
      have p0 := own_setT o1 br (by decide) 0 (.bool inn)
      have r0 := own_setT o2 br (by decide) 0 (.bool inn)
      have x0 := br.set_ 0 (.bool inn)
      have p1 := own_setT p0 x0 (by decide) 1 (.slice A1 (nkOf inn i) c1)
      have r1 := own_setT r0 x0 (by decide) 1 (.slice A1 (nkOf inn i) c1)
      have x1_ := x0.set_ 1 (.slice A1 (nkOf inn i) c1)
      have p2 := own_setT p1 x1_ (by decide) 2 (.slice A2 i c2)
      have r2 := own_setT r1 x1_ (by decide) 2 (.slice A2 i c2)
      have x2 := x1_.set_ 2 (.slice A2 i c2)
      have p3 := own_setT p2 x2 (by decide) 3 (.int .u64 lk)
      have r3 := own_setT r2 x2 (by decide) 3 (.int .u64 lk)
      have x3 := x2.set_ 3 (.int .u64 lk)
      have m9 := fun j => x3.cell j
      clear mn zr mr
      refine bodyPost_ret (v := .agg #[.bool inn, .slice A1 (nkOf inn i) c1, .slice A2 i c2, .int .u64 lk]) (by simp [results, Tryz.results49, go_sem, m9, List.setIfInBounds_toArray]) rfl ⟨⟨_, rfl, ?_⟩, by rw [← HGC.out]; exact C9⟩
      have hNK2 := HNK.out
      rw [HIN.out] at p3 r3 ⊢
      rw [← hNK2] at p3 r3 ⊢
      rw [HKE.out, HVE.out, ← HGC.out]
      exact ⟨_, _, rfl, by show World.ownsRow _ _ _ _ _ _ _; rw [rowL_len]; exact own_mono p3 (by omega), by show World.ownsRow _ _ _ _ _ _ _; rw [rowL_len]; exact own_mono r3 (by omega)⟩
end Go.Proofs.YtlnckjemfabckaaGreatDoor

/-
  A range over an iterator that marks what has come in a map of its caller's: contract and law.
-/
namespace Go.Proofs.YtlnckjemfabckaaGreatDoor
open Go.RowKit Go.Shelf

/-- What a round of loop l lets stand: all but lists of ints, and the loops from l down. -/
def okO (l k : Nat) : Obj → Prop
  | .cells _ t _ => t ≠ 3 ∧ t ≠ 79
  | .loop _ => l < k
  | _ => True
structure KeepX (l : Nat) (W W' : World) : Prop where
  size : W.heap.size ≤ W'.heap.size
  same : ∀ (k : Nat) (o : Obj), W.heap[k]? = some o → okO l k o → W'.heap[k]? = some o
theorem KeepX.refl (l : Nat) (W : World) : KeepX l W W := ⟨Nat.le_refl _, fun _ _ h _ => h⟩
theorem KeepX.trans {l : Nat} {a b c : World} (h : KeepX l a b) (k : KeepX l b c) : KeepX l a c := ⟨Nat.le_trans h.size k.size, fun i o ho hk => k.same i o (h.same i o ho hk) hk⟩
theorem okO_mono {l0 l k : Nat} {o : Obj} (h : l0 ≤ l) (ho : okO l k o) : okO l0 k o := by
  cases o <;> first | exact ho | exact Nat.lt_of_le_of_lt h ho
theorem KeepX.mono {l0 l : Nat} {W W' : World} (h : l0 ≤ l) (hk : KeepX l0 W W') : KeepX l W W' := ⟨hk.size, fun k o ho hok => hk.same k o ho (okO_mono h hok)⟩
theorem KeepX.of_below {l : Nat} {W W' : World} (hb : Below W.heap.size W W') : KeepX l W W' := ⟨hb.size, fun k _ ho _ => (hb.block k (Array.getElem?_eq_some_iff.1 ho).1).trans ho⟩
theorem KeepX.putLoop {l : Nat} {W : World} {r : Loop} (o : Obj) (h : W.heap[l]? = some (.loop r)) : KeepX l W (W.putObj l o) :=
  ⟨by simp, fun k o' hk hok => by
    by_cases e : k = l
    · subst e; rw [h] at hk; cases hk; exact absurd hok (Nat.lt_irrefl _)
    · exact (World.putObj_heap_other e).trans hk⟩
theorem KeepX.of_grownBy {l : Nat} {W W' : World} {row : Option Nat} (hg : W.grownBy W' row) (hrow : ∀ j, row = some j → ∃ c t f, W.heap[j]? = some (.cells c t f) ∧ (t = 3 ∨ t = 79)) : KeepX l W W' :=
  ⟨hg.size, fun k o hk hok => by
    refine (hg.block k (Array.getElem?_eq_some_iff.1 hk).1 (fun e => ?_)).trans hk
    obtain ⟨c, t, f, hc, ht⟩ := hrow k e.symm
    rw [hc] at hk
    cases hk
    rcases ht with ht | ht
    · exact hok.1 ht
    · exact hok.2 ht⟩
/-- What an iterator's own steps let stand: all but block bm, and what is no cells from n on. -/
structure PartN (n bm : Nat) (W W' : World) : Prop where
  os : W'.os = W.os
  tape : W'.tape = W.tape
  output : W'.output = W.output
  size : W.heap.size ≤ W'.heap.size
  same : ∀ (k : Nat) (o : Obj), W.heap[k]? = some o → k ≠ bm → (k < n ∨ o.isCells = true) → W'.heap[k]? = some o
theorem PartN.refl (n bm : Nat) (w : World) : PartN n bm w w := ⟨rfl, rfl, rfl, Nat.le_refl _, fun _ _ h _ _ => h⟩
theorem PartN.trans {n bm : Nat} {a b c : World} (h : PartN n bm a b) (k : PartN n bm b c) : PartN n bm a c :=
  ⟨k.os.trans h.os, k.tape.trans h.tape, k.output.trans h.output, Nat.le_trans h.size k.size, fun i o hi hn ho => k.same i o (h.same i o hi hn ho) hn ho⟩
theorem PartN.mono {n n' bm : Nat} {a b : World} (h : PartN n bm a b) (hn : n' ≤ n) : PartN n' bm a b := ⟨h.os, h.tape, h.output, h.size, fun k o hk hb ho => h.same k o hk hb (ho.imp (fun x => Nat.lt_of_lt_of_le x hn) id)⟩
theorem PartN.of_below {n bm : Nat} {W W' : World} (hb : Below W.heap.size W W') : PartN n bm W W' := ⟨hb.os, hb.tape, hb.output, hb.size, fun k _ hk _ _ => (hb.block k (Array.getElem?_eq_some_iff.1 hk).1).trans hk⟩
theorem PartN.of_grownBy {n bm : Nat} {W W' : World} (hg : W.grownBy W' (some bm)) : PartN n bm W W' :=
  ⟨hg.os, hg.tape, hg.output, hg.size, fun k _ hk hne _ => (hg.block k (Array.getElem?_eq_some_iff.1 hk).1 (fun e => hne (by injection e))).trans hk⟩
theorem PartN.putObj {n bm k : Nat} {W : World} {o : Obj} (o' : Obj) (h : W.heap[k]? = some o) (hc : o.isCells = false) (hk : n ≤ k) : PartN n bm W (W.putObj k o') :=
  ⟨rfl, rfl, rfl, by simp, fun j o2 hj _ ho => by
    by_cases e : j = k
    · subst e
      rw [h] at hj
      cases hj
      rcases ho with ho | ho
      · omega
      · rw [hc] at ho; cases ho
    · exact (World.putObj_heap_other e).trans hj⟩
theorem PartN.box {n bm B : Nat} {W W' : World} {t : TypeId} {cs : Array Value} (h : PartN n bm W W') (hb : Blk W B t cs) (hB : B ≠ bm) : Blk W' B t cs := h.same B _ hb hB (.inr rfl)
theorem PartN.own {n bm B : Nat} {W W' : World} {e : TypeId} {s k : Nat} {xs : List Value} {v : Value} (hp : PartN n bm W W') (h : W.ownsRow B e s v k xs) (hB : bm < B) : W'.ownsRow B e s v k xs := by
  refine ⟨h.1, ?_⟩
  rcases h.2 with h2 | ⟨g, cap, cur, hv, hg, hh, h3⟩
  · exact .inl h2
  · exact .inr ⟨g, cap, cur, hv, hg, hp.same g _ hh (by omega) (.inr rfl), h3⟩
/-- All that stands below n, but block bm. -/
structure BelowX (n bm : Nat) (W W' : World) : Prop where
  os : W'.os = W.os
  tape : W'.tape = W.tape
  output : W'.output = W.output
  size : W.heap.size ≤ W'.heap.size
  block : ∀ k, k < n → k ≠ bm → W'.heap[k]? = W.heap[k]?
theorem BelowX.refl (n bm : Nat) (w : World) : BelowX n bm w w := ⟨rfl, rfl, rfl, Nat.le_refl _, fun _ _ _ => rfl⟩
theorem BelowX.trans {n bm : Nat} {a b c : World} (h : BelowX n bm a b) (k : BelowX n bm b c) : BelowX n bm a c :=
  ⟨k.os.trans h.os, k.tape.trans h.tape, k.output.trans h.output, Nat.le_trans h.size k.size, fun i hi hn => (k.block i hi hn).trans (h.block i hi hn)⟩
theorem BelowX.of_below {n bm : Nat} {W W' : World} (hb : Below n W W') : BelowX n bm W W' := ⟨hb.os, hb.tape, hb.output, hb.size, fun k hk _ => hb.block k hk⟩
theorem BelowX.below {n n' bm : Nat} {W0 W W' : World} (h : BelowX n bm W W') (h0 : Below n' W0 W) (hn : n' ≤ n) (hb : n' ≤ bm) : Below n' W0 W' :=
  ⟨h.os.trans h0.os, h.tape.trans h0.tape, h.output.trans h0.output, Nat.le_trans h0.size h.size, fun k hk => (h.block k (by omega) (by omega)).trans (h0.block k hk)⟩
theorem BelowX.part {n bm : Nat} {W A A' : World} (h : BelowX n bm W A) (hp : PartN n bm A A') (hn : n ≤ W.heap.size) : BelowX n bm W A' :=
  ⟨hp.os.trans h.os, hp.tape.trans h.tape, hp.output.trans h.output, Nat.le_trans h.size hp.size, fun k hk hb => by
    have e := h.block k hk hb
    have hlt : k < A.heap.size := Nat.lt_of_lt_of_le hk (Nat.le_trans hn h.size)
    rw [← e]
    exact (hp.same k _ (Array.getElem?_eq_getElem hlt) hb (.inl hk)).trans (Array.getElem?_eq_getElem hlt).symm⟩
theorem room_of_none {F : Fence} (hd : F.depth = none) (k : Nat) : F.room k := fun d h => by rw [hd] at h; cases h
theorem RoundIn.anyDepth {F : Fence} (hd : F.depth = none) {m m' : Nat} {P : Program} {l : Nat} {f : FuncId} {tmps : Array Value} {assign body : Code} {w : World} {R : Ending → World → Prop}
    (h : RoundIn F m P l f tmps assign body w R) : RoundIn F m' P l f tmps assign body w R := ⟨h.1, fun c cs _ => h.2 c cs (room_of_none hd _)⟩
theorem YieldAt.anyDepth {F : Fence} (hd : F.depth = none) {m : Nat} (m' : Nat) {P : Program} {l : Nat} {args : Array Value} {W : World} {R : Ending → World → Prop} (h : YieldAt F m P l args W R) : YieldAt F m' P l args W R := by
  obtain ⟨fn, tmps, assign, body, hy, hR⟩ := h
  exact ⟨fn, tmps, assign, body, hy, RoundIn.anyDepth hd hR⟩
/-- An iterator that gives what l1 has behind l0, and turns nothing that lay but block bm; F0 holds behind it. -/
def Yields (P : Program) (gf : Nat) (lb : Array Value) (bm N : Nat) (l0 l1 : List Int) (w : World) (F0 : World → Prop) : Prop :=
  ∀ (n l : Nat) (J : List Int → World → Prop) (W : World), Below w.heap.size w W → l < W.heap.size →
    (∀ xs A A', J xs A → PartN W.heap.size bm A A' → J xs A') →
    (∀ xs x W1, xs.length < N → J xs W1 → YieldAt Fence.wide n P l #[.int .i64 x] W1 fun e W' => e = .returned (.bool true) ∧ J (xs ++ [x]) W' ∧ KeepX l W1 W') →
    J l0 W → CallsIn Fence.wide n P gf (#[.func (.yield l) #[] #[]] ++ lb) W fun e W' => (∃ v, e = .returned v) ∧ J l1 W' ∧ F0 W'
/-- What a round's body comes to. -/
def goesX (l : Nat) (I : List Int → World → Prop) (xs : List Int) (W : World) : Exit → Act → World → Prop
  | .normal, _, W' => KeepX l W W' ∧ W'.heap[l]? = W.heap[l]? ∧ I xs W'
  | _, _, _ => False

theorem Yields.later {P : Program} {gf bm N : Nat} {lb : Array Value} {l0 l1 : List Int} {w w' : World} {F0 : World → Prop} (h : Yields P gf lb bm N l0 l1 w F0) (hb : Below w.heap.size w w') : Yields P gf lb bm N l0 l1 w' F0 :=
  fun n l J W hW => h n l J W (hb.trans (hW.mono hb.size))
theorem rangeFunc_seen {P : Program} {n gf N bm : Nat} {g : Operand} {ps : Array Tmp} {assign body : Code} {Q : Exit → Act → World → Prop} {a : Act} {w : World} {lb : Array Value} {l0 l1 : List Int} {F0 : World → Prop}
    (hg : a.eval g = .func (.func gf) #[] lb) (eg : ∀ args w, (callFunc gf args).run P w = .ok (.enter gf args) w)
    (hseq : Yields P gf lb bm N l0 l1 w F0) (hbm : bm < w.heap.size) (hF0 : ∀ A k o, w.heap.size ≤ k → F0 A → F0 (A.putObj k o)) (hps : ps.size = 1)
    (I : List Int → World → Prop) (hI : ∀ xs A A', I xs A → PartN w.heap.size bm A A' → I xs A') (h0 : I l0 w) (a₁ : Int → Act)
    (hassign : ∀ (l : Nat) (x : Int) (W : World) (K : Act → World → Prop), K (a₁ x) W →
      assign.wpIn (Fence.wide.inRound l) (n - 1) P (Exit.then K (fun _ _ _ => False)) { tmps := (ps.zip #[Value.int .i64 x]).foldl (fun t (p, v) => t.setIfInBounds p v) a.tmps, defers := [] } W)
    (hbody : ∀ (l : Nat) (xs : List Int) (x : Int) (W : World), w.heap.size ≤ l → l < W.heap.size → (∃ r, W.heap[l]? = some (.loop r)) → I xs W → xs.length < N → body.wpIn (Fence.wide.inRound l) (n - 1) P (goesX l I (xs ++ [x]) W) (a₁ x) W)
    (hdone : ∀ (D : Nat) (W : World), w.heap.size ≤ D → I l1 W → F0 W → W.heap[D]? = some (.deferred (some [])) → Q .normal { a with defers := { target := .collected D, args := #[] } :: a.defers } W) :
    (Code.rangeFunc g ps assign body).wpIn Fence.wide n P Q a w := by
  refine wpIn_rangeFunc fun fn hfn => ?_
  obtain ⟨lp, hlp⟩ : ∃ lp : LoopState → Loop, lp = fun st => { state := st, pending := none, fn, tmps := a.tmps, params := ps, assign, body, defers := w.heap.size } := ⟨_, rfl⟩
  have hD : (w.alloc (.deferred (some []))).heap[w.heap.size]? = some (.deferred (some [])) := World.alloc_heap_new w _
  obtain ⟨w1, hw1⟩ : ∃ w1, (w.alloc (.deferred (some []))).alloc (.loop (lp .ready)) = w1 := ⟨_, rfl⟩
  have hz1 : w1.heap.size = w.heap.size + 2 := by rw [← hw1]; simp only [World.size_alloc]
  have e1 : w1.heap[w.heap.size + 1]? = some (.loop (lp .ready)) := by
    have := World.alloc_heap_new (w.alloc (.deferred (some []))) (.loop (lp .ready))
    rw [World.size_alloc] at this
    rw [← hw1]; exact this
  have e2 : w1.heap[w.heap.size]? = some (.deferred (some [])) := by
    rw [← hw1]; exact (Below.heap_alloc _ _ _ (by simp)).trans hD
  have hb1 : Below w.heap.size w w1 := by
    rw [← hw1]; exact ((Below.refl _ w).alloc (Nat.le_refl _) _).alloc (by simp) _
  have i1 : I l0 w1 := hI _ _ _ h0 (PartN.of_below hb1)
  refine ⟨w.heap.size + 1, [{ target := .collected w.heap.size, args := #[] }], w1, { target := .fn (.func gf) lb, args := #[.func (.yield (w.heap.size + 1)) #[] #[]] }, w1, gf,
    #[.func (.yield (w.heap.size + 1)) #[] #[]] ++ lb, w1, ?_, ?_, ?_, ?_, fun h => (by cases h), ?_⟩
  · rw [← hw1, hlp]; exact run_enterLoop_outer _ _ _ _ _
  · simp only [resolve, hg]
    simp [go_sem]
  · intro f' hf'; simp [Target.leads] at hf'; subst hf'; trivial
  · simp [invoke, go_sem, eg]
  refine (hseq (n - 1) (w.heap.size + 1) (fun xs W => I xs W ∧ W.heap[w.heap.size + 1]? = some (.loop (lp .ready)) ∧ W.heap[w.heap.size]? = some (.deferred (some []))) w1 hb1 (by omega)
    (fun xs A A' hs hp => ⟨hI xs A A' hs.1 (hp.mono (by omega)), hp.same _ _ hs.2.1 (by omega) (.inl (by omega)), hp.same _ _ hs.2.2 (by omega) (.inl (by omega))⟩) ?_ ⟨i1, e1, e2⟩).mono ?_
  · rintro xs x W hlen ⟨hi, hl, hd⟩
    have hlt : w.heap.size + 1 < W.heap.size := (Array.getElem?_eq_some_iff.1 hl).1
    have hy := run_yield (P := P) (args := #[Value.int .i64 x]) hl (by rw [hlp]; simp [hps])
    rw [hlp] at hy
    have hbr := run_beginRound (P := P) hl (by rw [hlp])
    refine ⟨fn, _, assign, body, hy, roundIn_of_wpIn hfn (hassign _ x W _ ⟨_, hbr, ?_⟩)⟩
    obtain ⟨X, hX⟩ : ∃ X, W.putObj (w.heap.size + 1) (.loop { lp .ready with state := .busy }) = X := ⟨_, rfl⟩
    have hlX : X.heap[w.heap.size + 1]? = some (.loop { lp .ready with state := .busy }) := by rw [← hX]; exact World.putObj_heap_same hlt
    have hdX : X.heap[w.heap.size]? = some (.deferred (some [])) := by rw [← hX]; exact (World.putObj_heap_other (by omega)).trans hd
    have iX : I xs X := by rw [← hX]; exact hI _ _ _ hi (PartN.putObj _ hl rfl (by omega))
    have kX : KeepX (w.heap.size + 1) W X := by rw [← hX]; exact KeepX.putLoop _ hl
    rw [hX]
    have hszX : w.heap.size + 1 < X.heap.size := by rw [← hX]; simpa using hlt
    refine wpIn_mono (hbody _ xs x X (by omega) hszX ⟨_, hlX⟩ iX hlen) ?_
    rintro e a3 W3 hp
    cases e with
    | normal =>
      obtain ⟨hk, hsame, hi3⟩ := hp
      have hl3 := hsame.trans hlX
      have hd3 := hk.same _ _ hdX trivial
      have hend := run_endRound (P := P) none hl3
      refine ⟨_, _, hend, rfl, ⟨hI _ _ _ hi3 (PartN.putObj _ hl3 rfl (by omega)), ?_, (World.putObj_heap_other (by omega)).trans hd3⟩, (kX.trans hk).trans (KeepX.putLoop _ hl3)⟩
      have := World.putObj_heap_same (w := W3) (o := .loop { { lp .ready with state := .busy } with state := if (none : Option Code).isNone then .ready else .done, pending := none }) (Array.getElem?_eq_some_iff.1 hl3).1
      rw [this, hlp]
      rfl
    | _ => exact hp.elim
  · rintro e W2 ⟨⟨v, rfl⟩, ⟨hi, hl, hd⟩, hf⟩
    have hend := run_endLoop (P := P) hl (by rw [hlp]; simp)
    rw [hlp] at hend
    exact ⟨none, _, hend, hdone _ _ (Nat.le_refl _) (hI _ _ _ hi (PartN.putObj _ hl rfl (by omega))) (hF0 _ _ _ (by omega) hf) ((World.putObj_heap_other (by omega)).trans hd)⟩
end Go.Proofs.YtlnckjemfabckaaGreatDoor

/-
  slices.Collect of an iterator that marks what has come in a map of its caller's.
-/
namespace Go.Proofs.YtlnckjemfabckaaGreatDoor
open Go.RowKit Go.Shelf
attribute [local go_sem] Oper.semAt_some

theorem infoIC : (Tryz.prog.info? 3).map (fun i => (i.zero, i.size, i.bytes)) = some (some (.int .i64 0), 1, 8) := by kernel_rfl
theorem keepX_append {l B base s n : Nat} {W w1 : World} {v v' : Value} {xs : List Value} {tmp : Obj} (hv : Boxed W B 79 v) (hrow : W.ownsRow base 3 s v n xs) (hg : (W.alloc tmp).grownBy w1 v.ownBlock) : KeepX l W (w1.setCell ⟨B, 0, none⟩ v') := by
  refine ⟨?_, fun k o hk hok => ?_⟩
  · have h1 := hg.size
    rw [World.size_alloc] at h1
    rw [World.size_setCell]
    omega
  · have hlt := (Array.getElem?_eq_some_iff.1 hk).1
    have hB : k ≠ B := fun e => by
      subst e
      rw [show W.heap[k]? = _ from hv] at hk
      cases hk
      exact hok.2 rfl
    have hR : some k ≠ v.ownBlock := fun e => by
      rcases hrow.2 with ⟨rfl, _⟩ | ⟨g, cap, cur, rfl, _, hgb, _⟩
      · simp [Value.ownBlock] at e
      · obtain rfl : k = g := by simpa [Value.ownBlock] using e
        rw [hgb] at hk
        cases hk
        exact hok.1 rfl
    refine (Below.heap_setCell w1 ⟨B, 0, none⟩ v' k hB).trans ((hg.block k (by rw [World.size_alloc]; omega) hR).trans ((Below.heap_alloc W tmp k hlt).trans hk))
/-- What lies in the box of the list. -/
def ColI (B base bm : Nat) (w : World) (xs : List Int) (W : World) : Prop :=
  (∃ v, Boxed W B 79 v ∧ W.ownsRow base 3 1 v xs.length (xs.map (Value.int .i64))) ∧ BelowX base bm w W
set_option maxRecDepth 100000 in
set_option maxHeartbeats 2000000 in
theorem appseq_in (gf bm N : Nat) (lb : Array Value) (l1 : List Int) (F0 : World → Prop) (w : World) (hN : N ≤ 100000) (hbm : bm < w.heap.size) (hseq : Yields Tryz.prog gf lb bm N [] l1 w F0)
    (hF0 : ∀ A k o, w.heap.size ≤ k → F0 A → F0 (A.putObj k o)) (eg : ∀ args w, (callFunc gf args).run Tryz.prog w = .ok (.enter gf args) w) :
    CallsIn Fence.wide 5 Tryz.prog 113 #[.slice none 0 0, .func (.func gf) #[] lb] w fun e W' => (∃ A c, e = .returned (.slice A l1.length c) ∧ W'.ownsRow w.heap.size 3 1 (.slice A l1.length c) l1.length (ints .i64 l1)) ∧ BelowX w.heap.size bm w W' ∧ F0 W' := by
  obtain ⟨i0, hi, hz0, hz1, hz2⟩ := info_parts infoIC
  refine callsIn_of_wp_marks Tryz.func113 rfl trivial ?_ rfl
  simp only [Tryz.ntmps113, List.size_toArray, List.length_cons, List.length_nil, Nat.reduceAdd, Nat.reduceSub, Array.replicate_succ, Array.replicate_zero, List.push_toArray, List.append_toArray, List.nil_append, List.cons_append]
  gi_wp2
  obtain ⟨W3, hW3⟩ : ∃ W3, w.alloc (.cells #[.slice none 0 0] 79) = W3 := ⟨_, rfl⟩
  have bO := Boxed.new w 79 (.slice none 0 0)
  have hB : Below w.heap.size w (w.alloc (.cells #[.slice none 0 0] 79)) := (Below.refl _ w).alloc (Nat.le_refl _) _
  have hsz : (w.alloc (.cells #[.slice none 0 0] 79)).heap.size = w.heap.size + 1 := World.size_alloc _ _
  rw [hW3] at bO hB hsz ⊢
  refine rangeFunc_seen (gf := gf) (lb := lb) rfl eg (hseq.later hB) (by omega) (fun A k o hk => hF0 A k o (by omega)) rfl
    (ColI w.heap.size w.heap.size bm w)
    (fun xs A A' h hp => by
      obtain ⟨⟨v, hv, hr⟩, hb⟩ := h
      exact ⟨⟨v, hp.box hv (by omega), hp.own hr hbm⟩, hb.part (hp.mono (by omega)) (Nat.le_refl _)⟩)
    ⟨⟨_, bO, World.ownsRow_nil _ _ _ _⟩, BelowX.of_below hB⟩
    (fun (x : Int) => { tmps := #[.slice none 0 0, .func (.func gf) #[] lb, .pointer (some ⟨w.heap.size, 0, none⟩), undef, .slice none 0 0, .int .i64 x, .func (.func gf) #[] lb, .int .i64 x, undef, undef, undef, undef, undef], defers := [] }) ?assign ?body ?done
  case assign =>
    intro l x W K hK
    gi_wp2
    exact hK
  case body =>
    rintro l pre x W hl1 hl2 ⟨r, hlr⟩ ⟨⟨v, hv, hrow⟩, hbx⟩ hlt
    have hc := hv.cell
    have hml : pre.length + 1 ≤ maxLen := Nat.le_trans (show pre.length + 1 ≤ 100001 by omega) (by decide)
    have hn0 : w.heap.size ≤ W.heap.size := hbx.size
    gi_wp2_with (gi_at_builtin; refine wpListIn_append_own _ rfl _ _ 79 rfl w.heap.size 3 i0 (.int .i64 0) 1 8 Tryz.underlying79 hi hz0 hz1 hz2 rfl (by decide) _ _ _ rfl (hrow.alloc _) ⟨W.heap.size, 0, none⟩ 1 1 [.int .i64 x] rfl rfl (cell_one_new _ _ _) (by simp [Value.oneCell']) (by omega) (by omega) (by simp; omega) ?_; intro v' w1 hown' hgrow _; obtain ⟨g', cap', rfl⟩ := ownsRow_succ hown'; obtain ⟨hv1, hv2, hr2, hk2, hb2⟩ := hv.appended (by decide) hrow hn0 (Nat.le_refl _) hown' hgrow; have hc1 := hv1.cell; have hf1 := hv1.frozen)
    have hb3 : BelowX w.heap.size bm w (w1.setCell ⟨w.heap.size, 0, none⟩ (.slice (some ⟨g', 0, none⟩) (pre.length + 1) cap')) := hbx.trans (BelowX.of_below hb2)
    exact ⟨keepX_append hv hrow hgrow, (hk2.same l _ hlr rfl).trans hlr.symm, ⟨_, hv2, by rw [List.length_append, List.map_append]; exact hr2⟩, hb3⟩
  case done =>
    rintro D W hD ⟨⟨v, hv, hrow⟩, hbx⟩ hf hK
    have hc := hv.cell
    obtain ⟨G, cg, rfl, _⟩ := own_reads hrow
    have HD := hide (show w.heap.size ≤ D by omega)
    gi_wp2
    refine ⟨by simp, .inl ⟨_, _, rfl, run_takeDeferred hK, ?_⟩⟩
    exact ⟨_, results_tmp rfl _ _ _, ⟨G, cg, rfl, ownsRow_putObj hrow _ hK rfl⟩, hbx.part (PartN.putObj _ hK rfl HD.out) (Nat.le_refl _), hF0 _ _ _ HD.out hf⟩
theorem collect_any (gf bm N : Nat) (lb : Array Value) (l1 : List Int) (F0 : World → Prop) (w : World) (hN : N ≤ 100000) (hbm : bm < w.heap.size) (hseq : Yields Tryz.prog gf lb bm N [] l1 w F0)
    (hF0 : ∀ A k o, w.heap.size ≤ k → F0 A → F0 (A.putObj k o)) (eg : ∀ args w, (callFunc gf args).run Tryz.prog w = .ok (.enter gf args) w) :
    Calls Tryz.prog 99 #[.func (.func gf) #[] lb] w fun e W' => (∃ A c, e = .returned (.slice A l1.length c) ∧ W'.ownsRow w.heap.size 3 1 (.slice A l1.length c) l1.length (ints .i64 l1)) ∧ BelowX w.heap.size bm w W' ∧ F0 W' := by
  have C := hide ((callsIn_wide (n := 5)).1 (appseq_in gf bm N lb l1 F0 w hN hbm hseq hF0 eg))
  clear hseq hF0 eg hN hbm
  go_enter Tryz.func99, Tryz.ntmps99
  go_wp2_with fail
  refine (C.out).mono ?_
  rintro e w1 ⟨⟨A, c, rfl, ho⟩, hb, hf⟩
  go_wp2_with fail
  go_ret
  exact ⟨⟨A, c, rfl, ho⟩, hb, hf⟩
end Go.Proofs.YtlnckjemfabckaaGreatDoor

/-
  The slots that come of a handle, as a list; arena.below.
-/
namespace Go.Proofs.YtlnckjemfabckaaGreatDoor
open Go.RowKit Go.Shelf Go.Maps
attribute [local go_sem] Oper.semAt_some

/-- The slots that came, and those that come of a handle. -/
def comeN (nd : Int → Bool × List Int) (s : Int) : Nat → Int → List Int → List Int
  | 0, _, l => l
  | n + 1, h, l => if hrt h s = true ∧ hsl h ∉ l then (if (nd (hsl h)).1 = true then (nd (hsl h)).2.foldl (fun l c => comeN nd s n c l) (l ++ [hsl h]) else l ++ [hsl h]) else l
def ndOf (ws : List Int) (t f k : Int) : Bool × List Int := (nodI ws t f k, nodV ws t f k)
theorem hrt_slot {h s : Int} (hr : hrt h s = true) : 1 ≤ hsl h ∧ hsl h ≤ s := by
  unfold hrt at hr
  simp only [Bool.and_eq_true, decide_eq_true_eq] at hr
  exact ⟨hr.1.1, hr.1.2⟩
theorem nice_le {s : Int} {l : List Int} (h : Nice s l) (hs : 0 ≤ s) : l.length ≤ s.toNat := nice_len s.toNat l (by rw [Int.toNat_of_nonneg hs]; exact h)
theorem comeN_nice (nd : Int → Bool × List Int) (s : Int) : ∀ (n : Nat) (h : Int) (l : List Int), Nice s l → Nice s (comeN nd s n h l) ∧ l.length ≤ (comeN nd s n h l).length
  | 0, h, l, hl => ⟨hl, Nat.le_refl _⟩
  | n + 1, h, l, hl => by
    unfold comeN
    split
    next hc =>
      have h1 := nice_snoc hl (hrt_slot hc.1) hc.2
      have h2 : l.length ≤ (l ++ [hsl h]).length := by simp
      split
      · have key : ∀ (vs : List Int) (l' : List Int), Nice s l' → Nice s (vs.foldl (fun l c => comeN nd s n c l) l') ∧ l'.length ≤ (vs.foldl (fun l c => comeN nd s n c l) l').length := by
          intro vs
          induction vs with
          | nil => exact fun l' h' => ⟨h', Nat.le_refl _⟩
          | cons v vs ih =>
            intro l' h'
            have a := comeN_nice nd s n v l' h'
            have b := ih _ a.1
            exact ⟨b.1, Nat.le_trans a.2 b.2⟩
        have k := key (nd (hsl h)).2 _ h1
        exact ⟨k.1, Nat.le_trans h2 k.2⟩
      · exact ⟨h1, h2⟩
    · exact ⟨hl, Nat.le_refl _⟩
/-- What has come behind k children. -/
def comesK (nd : Int → Bool × List Int) (s : Int) (n : Nat) (vs : List Int) (l : List Int) (k : Nat) : List Int := (vs.take k).foldl (fun l c => comeN nd s n c l) l
theorem comesK_zero (nd : Int → Bool × List Int) (s : Int) (n : Nat) (vs l : List Int) : comesK nd s n vs l 0 = l := rfl
theorem comesK_succ (nd : Int → Bool × List Int) (s : Int) (n : Nat) (vs l : List Int) (k : Nat) (hk : k < vs.length) : comesK nd s n vs l (k + 1) = comeN nd s n vs[k] (comesK nd s n vs l k) := by
  unfold comesK
  rw [List.take_add_one, List.getElem?_eq_getElem hk, List.foldl_append]
  rfl
theorem comesK_all (nd : Int → Bool × List Int) (s : Int) (n : Nat) (vs l : List Int) : comesK nd s n vs l vs.length = vs.foldl (fun l c => comeN nd s n c l) l := by
  unfold comesK
  rw [List.take_length]
theorem comesK_nice {nd : Int → Bool × List Int} {s : Int} {n : Nat} {vs l : List Int} (hl : Nice s l) : ∀ k, k ≤ vs.length → Nice s (comesK nd s n vs l k) ∧ l.length ≤ (comesK nd s n vs l k).length
  | 0, _ => ⟨hl, Nat.le_refl _⟩
  | k + 1, hk => by
    have a := comesK_nice (nd := nd) (s := s) (n := n) (vs := vs) hl k (Nat.le_of_succ_le hk)
    rw [comesK_succ nd s n vs l k (by omega)]
    have b := comeN_nice nd s n vs[k] _ a.1
    exact ⟨b.1, Nat.le_trans a.2 b.2⟩
theorem rowL_w64 {ws : List Int} (h : AllW64 ws) (g : Nat → Int) (n : Nat) : ∀ x ∈ rowL ws g n, W64 x := by
  intro x hx
  unfold rowL at hx
  obtain ⟨i, _, rfl⟩ := List.mem_map.1 hx
  exact wGet_w64 h _
theorem MemOk.keepX {w w' : World} {gm gw lp : Nat} {s t f l p : Int} {ws : List Int} (h : MemOk w gm gw s t f l p ws) (hk : KeepX lp w w') : MemOk w' gm gw s t f l p ws :=
  ⟨hk.same _ _ h.1 ⟨by decide, by decide⟩, hk.same _ _ h.2.1 ⟨by decide, by decide⟩, h.2.2⟩
theorem MemOk.part {w w' : World} {gm gw n bm : Nat} {s t f l p : Int} {ws : List Int} (h : MemOk w gm gw s t f l p ws) (hk : PartN n bm w w') (h1 : gm ≠ bm) (h2 : gw ≠ bm) : MemOk w' gm gw s t f l p ws :=
  ⟨hk.same _ _ h.1 h1 (.inr rfl), hk.same _ _ h.2.1 h2 (.inr rfl), h.2.2⟩
theorem MapInt.keepX {w w' : World} {b n lp : Nat} {f : Int → Bool} (h : MapInt w b n f) (hk : KeepX lp w w') : MapInt w' b n f := by
  obtain ⟨D, hi, ⟨es, cl, hh, r⟩, ha⟩ := h
  exact ⟨D, hi, ⟨es, cl, hk.same _ _ hh trivial, r⟩, ha⟩
theorem MapInt.putObj {w : World} {b n k : Nat} {f : Int → Bool} (h : MapInt w b n f) (o : Obj) (hk : b ≠ k) : MapInt (w.putObj k o) b n f := by
  obtain ⟨D, hi, ⟨es, cl, hh, r⟩, ha⟩ := h
  exact ⟨D, hi, ⟨es, cl, (World.putObj_heap_other hk).trans hh, r⟩, ha⟩
theorem MapInt.mark {w : World} {b n : Nat} {f : Int → Bool} (h : MapInt w b n f) (hn : n < maxLen) (k : Int) (hk : (Lit.int .i64 k).wf = true) :
    ∃ w', (Instr.mapUpdate 131 (.map (some b)) (.int .i64 k) (.bool true)).run Tryz.prog w = .ok () w' ∧ MapInt w' b (n + 1) (fun j => if j = k then true else f j) ∧ w.grownBy w' (some b) := by
  obtain ⟨D, hi, ho, ha⟩ := h
  obtain ⟨w', hrun, h1, h2⟩ := ho.update lawI64 Tryz.underlying131 hn (keyOf_int_mk Tryz.underlying3 hk) (plainElem_bool Tryz.underlying4 true)
  refine ⟨w', hrun, ⟨_, hi.put _ _, h1, fun j hj => ?_⟩, h2⟩
  rw [atKey_putI hi]
  by_cases hjk : j = k
  · simp [hjk]
  · simp only [if_neg hjk]
    exact ha j hj
theorem MapInt.blk_ne {w : World} {b n g : Nat} {f : Int → Bool} {t : TypeId} {cs : Array Value} (h : MapInt w b n f) (hb : Blk w g t cs) : g ≠ b := by
  obtain ⟨D, hi, ⟨es, cl, hh, r⟩, ha⟩ := h
  rintro rfl
  rw [show w.heap[g]? = _ from hb] at hh
  cases hh
theorem KeepX.blk {w w' : World} {lp g : Nat} {t : TypeId} {cs : Array Value} (hk : KeepX lp w w') (h : Blk w g t cs) (h1 : t ≠ 3) (h2 : t ≠ 79) : Blk w' g t cs := hk.same _ _ h ⟨h1, h2⟩
theorem KeepX.own {lp B s k : Nat} {W W' : World} {e : TypeId} {xs : List Value} {v : Value} (hp : KeepX lp W W') (h : W.ownsRow B e s v k xs) (h1 : e ≠ 3) (h2 : e ≠ 79) : W'.ownsRow B e s v k xs := by
  refine ⟨h.1, ?_⟩
  rcases h.2 with h2 | ⟨g, cap, cur, hv, hg, hh, h3⟩
  · exact .inl h2
  · exact .inr ⟨g, cap, cur, hv, hg, hp.same g _ hh ⟨h1, h2⟩, h3⟩
/-- The marks of the loops that a call has been through. -/
def markOf (D : Nat) : Deferred := { target := .collected D, args := #[] }
def Marks (base : Nat) (Ds : List Nat) (W : World) : Prop := Ds.Nodup ∧ ∀ D ∈ Ds, base ≤ D ∧ W.heap[D]? = some (.deferred (some []))
theorem Marks.keepX {base lp : Nat} {Ds : List Nat} {W W' : World} (h : Marks base Ds W) (hk : KeepX lp W W') : Marks base Ds W' := ⟨h.1, fun D hD => ⟨(h.2 D hD).1, hk.same _ _ (h.2 D hD).2 trivial⟩⟩
theorem Marks.part {base n bm : Nat} {Ds : List Nat} {W W' : World} (h : Marks base Ds W) (hk : PartN n bm W W') (hb : bm < base) (hn : ∀ D ∈ Ds, D < n) : Marks base Ds W' := ⟨h.1, fun D hD => ⟨(h.2 D hD).1, hk.same _ _ (h.2 D hD).2 (by have := (h.2 D hD).1; omega) (.inl (hn D hD))⟩⟩
theorem Marks.lt {base : Nat} {Ds : List Nat} {W : World} (h : Marks base Ds W) : ∀ D ∈ Ds, D < W.heap.size := fun D hD => (Array.getElem?_eq_some_iff.1 (h.2 D hD).2).1
/-- What the way out of a function that bears marks leaves. -/
structure Shut (n : Nat) (W W' : World) : Prop where
  os : W'.os = W.os
  tape : W'.tape = W.tape
  output : W'.output = W.output
  size : W'.heap.size = W.heap.size
  low : ∀ k, k < n → W'.heap[k]? = W.heap[k]?
  cells : ∀ (k : Nat) (o : Obj), W.heap[k]? = some o → o.isCells = true → W'.heap[k]? = some o
theorem Shut.part {n bm : Nat} {W W' : World} (h : Shut n W W') : PartN n bm W W' := ⟨h.os, h.tape, h.output, Nat.le_of_eq h.size.symm, fun k o hk _ ho => ho.elim (fun x => (h.low k x).trans hk) (fun x => h.cells k o hk x)⟩
theorem MapInt.shut {w w' : World} {b n m : Nat} {f : Int → Bool} (h : MapInt w b n f) (hs : Shut m w w') (hb : b < m) : MapInt w' b n f := by
  obtain ⟨D, hi, ⟨es, cl, hh, r⟩, ha⟩ := h
  exact ⟨D, hi, ⟨es, cl, (hs.low b hb).trans hh, r⟩, ha⟩
theorem leaves_marks {F : Fence} {n base : Nat} {P : Program} {fn : Func} {tmps : Array Value} {R : Ending → World → Prop} : ∀ (Ds : List Nat) (W : World), Marks base Ds W → (∀ W', Shut base W W' → LeavesIn F n P fn tmps R [] .returning W') →
    LeavesInM F n P fn tmps R (Ds.map markOf) .returning W
  | [], W, _, h => h W ⟨rfl, rfl, rfl, rfl, fun _ _ => rfl, fun _ _ h _ => h⟩
  | D :: Ds, W, hm, h => by
    have hD := hm.2 D (by simp)
    have hnd := List.nodup_cons.1 hm.1
    refine ⟨by simp, .inl ⟨D, _, rfl, run_takeDeferred hD.2, ?_⟩⟩
    refine leaves_marks Ds _ ⟨hnd.2, fun D' h' => ⟨(hm.2 D' (by simp [h'])).1, (World.putObj_heap_other (fun e => hnd.1 (by rw [← e]; exact h'))).trans (hm.2 D' (by simp [h'])).2⟩⟩ fun W' hW => h W' ?_
    refine ⟨hW.os, hW.tape, hW.output, hW.size.trans (by simp), fun k hk => (hW.low k hk).trans (World.putObj_heap_other (by omega)), fun k o hk ho => hW.cells k o ?_ ho⟩
    refine (World.putObj_heap_other (fun e => ?_)).trans hk
    subst e
    rw [hD.2] at hk
    cases hk
    cases ho

set_option maxHeartbeats 1000000 in
theorem below_in (n : Nat) (p : Option Addr) (h : Int) (m : Option Nat) (w : World) :
    CallsIn Fence.wide n Tryz.prog 100 #[.pointer p, .int .u64 h, .map m] w fun e w' => e = .returned (.func (.func 114) #[] #[.pointer (some ⟨w.heap.size + 1, 0, none⟩), .pointer (some ⟨w.heap.size, 0, none⟩), .pointer (some ⟨w.heap.size + 1 + 1, 0, none⟩)]) ∧ w' = ((w.alloc (.cells #[.pointer p] 27)).alloc (.cells #[.int .u64 h] 32)).alloc (.cells #[.map m] 131) := by
  refine callsIn_of_wp Tryz.func100 rfl trivial ?_ rfl
  simp only [Tryz.ntmps100, List.size_toArray, List.length_cons, List.length_nil, Nat.reduceAdd, Nat.reduceSub, Array.replicate_succ, Array.replicate_zero, List.push_toArray, List.append_toArray, List.nil_append, List.cons_append]
  gi_wp2
  go_ret
  exact ⟨rfl, rfl⟩
end Go.Proofs.YtlnckjemfabckaaGreatDoor

/-
  arena.below's closure gives the slots that come of a handle.
-/
namespace Go.Proofs.YtlnckjemfabckaaGreatDoor
open Go.RowKit Go.Shelf Go.Maps
attribute [local go_sem] Oper.semAt_some

/-- A piece that must end normally. -/
def onlyNt (Q : Exit → Act → World → Prop) : Exit → Act → World → Prop
  | .normal, a, w => Q .normal a w
  | _, _, _ => False
theorem wp_onlyNt {P : Program} {c : Code} {Q : Exit → Act → World → Prop} {a : Act} {w : World} (h : c.wp P (onlyNt Q) a w) : c.wp P Q a w :=
  Code.wp_mono (fun e a w h => by cases e <;> first | exact h | exact h.elim) h
def idxOf (a : Act) : Nat := match a.tmps[41]? with | some (Value.int _ n) => n.toNat | _ => 0
/-- What every step leaves: boxes, the memory, the children, the marks. -/
structure KeepW (gm gw : Nat) (s t f lm p : Int) (ws : List Int) (bmm bs by_ lp : Nat) (vs : List Int) (v : Value) (g5 bm base : Nat) (Ds : List Nat) (W' : World) : Prop where
  M : MemOk W' gm gw s t f lm p ws
  xm : Blk W' bmm 27 #[.pointer (some ⟨gm, 0, none⟩)]
  xs : Blk W' bs 131 #[.map (some bm)]
  xy : Blk W' by_ 109 #[.func (.yield lp) #[] #[]]
  ov : W'.ownsRow by_ 32 1 v vs.length (ints .u64 vs)
  mks : Marks by_ Ds W'
  sz : g5 < W'.heap.size
/-- What holds between two children. -/
structure LoopW (J : List Int → World → Prop) (C : Nat → List Int) (bm gm gw : Nat) (s t f lm p : Int) (ws : List Int) (bmm bs by_ lp : Nat) (vs : List Int) (v : Value) (g5 k : Nat) (Ds : List Nat) (W' : World) : Prop where
  j : J (C k) W'
  mi : MapInt W' bm (C k).length (fun j => decide (j ∈ C k))
  kw : KeepW gm gw s t f lm p ws bmm bs by_ lp vs v g5 bm 0 Ds W'
theorem KeepW.keepX {gm gw bmm bs by_ lp g5 bm base l9 : Nat} {s t f lm p : Int} {ws vs : List Int} {v : Value} {Ds : List Nat} {W W' : World} (h : KeepW gm gw s t f lm p ws bmm bs by_ lp vs v g5 bm base Ds W) (hk : KeepX l9 W W') : KeepW gm gw s t f lm p ws bmm bs by_ lp vs v g5 bm base Ds W' :=
  ⟨h.M.keepX hk, hk.blk h.xm (by decide) (by decide), hk.blk h.xs (by decide) (by decide), hk.blk h.xy (by decide) (by decide), hk.own h.ov (by decide) (by decide), h.mks.keepX hk, Nat.lt_of_lt_of_le h.sz hk.size⟩
theorem KeepW.part {gm gw bmm bs by_ lp g5 bm base n : Nat} {s t f lm p : Int} {ws vs : List Int} {v : Value} {Ds : List Nat} {W W' : World} (h : KeepW gm gw s t f lm p ws bmm bs by_ lp vs v g5 bm base Ds W) (hk : PartN n bm W W') (h1 : gm ≠ bm ∧ gw ≠ bm) (h2 : bmm ≠ bm ∧ bs ≠ bm) (h3 : bm < by_) (hn : ∀ D ∈ Ds, D < n) : KeepW gm gw s t f lm p ws bmm bs by_ lp vs v g5 bm base Ds W' :=
  ⟨h.M.part hk h1.1 h1.2, hk.box h.xm h2.1, hk.box h.xs h2.2, hk.box h.xy (by omega), hk.own h.ov h3, h.mks.part hk h3 hn, Nat.lt_of_lt_of_le h.sz hk.size⟩
theorem onlyNt_normal {Q : Exit → Act → World → Prop} {a : Act} {w : World} (h : Q .normal a w) : onlyNt Q .normal a w := h
set_option maxRecDepth 100000 in
set_option maxHeartbeats 4000000 in
theorem below1_yields (gm gw : Nat) (s t f lm p : Int) (ws : List Int) (hs : 1 ≤ s ∧ s ≤ 1000) (ht : 1 ≤ t ∧ t ≤ 64) (hf : 4 ≤ f ∧ f ≤ 64) (h64 : AllW64 ws) : ∀ (fuel : Nat) (h : Int) (l : List Int) (w : World) (bh bmm bs bm : Nat), W64 h → Nice s l → s.toNat + 1 ≤ l.length + fuel → MemOk w gm gw s t f lm p ws → MapInt w bm l.length (fun j => decide (j ∈ l)) → Blk w bh 32 #[.int .u64 h] → Blk w bmm 27 #[.pointer (some ⟨gm, 0, none⟩)] → Blk w bs 131 #[.map (some bm)] →
    Yields Tryz.prog 114 #[.pointer (some ⟨bh, 0, none⟩), .pointer (some ⟨bmm, 0, none⟩), .pointer (some ⟨bs, 0, none⟩)] bm s.toNat l (comeN (ndOf ws t f) s fuel h l) w (fun W => MapInt W bm (comeN (ndOf ws t f) s fuel h l).length (fun j => decide (j ∈ comeN (ndOf ws t f) s fuel h l))) := by
  intro fuel
  induction fuel with
  | zero =>
    intro h l w bh bmm bs bm _ hN hfu
    have := nice_le hN (by omega)
    omega
  | succ fuel ih =>
    intro h l w bh bmm bs bm hh hN hfu M MI xh xm xs n lp J W hb hlp hJ hY h0
    replace M := M.below hb
    replace MI := MI.below hb
    replace xh := xh.below hb xh.lt
    replace xm := xm.below hb xm.lt
    replace xs := xs.below hb xs.lt
    have PB := (Below.refl W.heap.size W).alloc (Nat.le_refl _) (.cells #[.func (.yield lp) #[] #[]] 109)
    have xy := Blk.new W 109 #[.func (.yield lp) #[] #[]]
    replace xh := xh.alloc (.cells #[.func (.yield lp) #[] #[]] 109)
    replace xm := xm.alloc (.cells #[.func (.yield lp) #[] #[]] 109)
    replace xs := xs.alloc (.cells #[.func (.yield lp) #[] #[]] 109)
    have C1 := hide (fun w2 => hnslot_any h w2 hh)
    have C2 := hide (fun w2 => lconfig_any s t f lm p w2)
    have C3 := hide (fun w2 => hnright_any h s w2 hh)
    have hf0 : ∀ w : World, (Instr.field 23 (.agg #[.int .i64 s, .int .i64 t, .int .i64 f, .int .i64 lm, .int .i64 p]) 0).run Tryz.prog w = .ok (.int .i64 s) w := fun _ => by kernel_rfl
    have hsw : (Lit.int .i64 (hsl h)).wf = true := by
      have : 0 ≤ hsl h ∧ hsl h < 65536 := by unfold hsl; omega
      simp only [Lit.wf, Bool.and_eq_true, decide_eq_true_eq]
      exact ⟨by show (-9223372036854775808 : Int) ≤ hsl h; omega, by show hsl h ≤ (9223372036854775807 : Int); omega⟩
    have HCE := hide (show comeN (ndOf ws t f) s (fuel + 1) h l = if hrt h s = true ∧ hsl h ∉ l then (if ((ndOf ws t f) (hsl h)).1 = true then ((ndOf ws t f) (hsl h)).2.foldl (fun l c => comeN (ndOf ws t f) s fuel c l) (l ++ [hsl h]) else l ++ [hsl h]) else l from rfl)
    have HSL := hide (fun hr => hrt_slot (h := h) (s := s) hr)
    generalize comeN (ndOf ws t f) s (fuel + 1) h l = lout at *
    generalize hsl h = sl at *
    have HS := hide hs
    have HT := hide ht
    have HF := hide hf
    have H64 := hide h64
    have HN := hide hN
    have HFU := hide hfu
    have HJ := hide hJ
    have HY := hide hY
    have H0 := hide h0
    have IH := hide ih
    have HMB := hide (show gm ≠ bm ∧ gw ≠ bm from ⟨MI.blk_ne M.1, MI.blk_ne M.2.1⟩)
    have HXB := hide (show bmm ≠ bm ∧ bs ≠ bm from ⟨(MI.alloc _).blk_ne xm, (MI.alloc _).blk_ne xs⟩)
    have HBM := hide MI.lt
    have HLP := hide hlp
    clear hs ht hf h64 hN hfu hJ hY h0 ih hb hlp
    replace M := M.below PB
    replace MI := MI.alloc (.cells #[.func (.yield lp) #[] #[]] 109)
    refine callsIn_wide.2 ((callsIn_wide (n := 5)).1 ?_)
    have hn : 1 ≤ 5 := by omega
    refine callsIn_of_wp_marks Tryz.func114 rfl trivial ?_ rfl
    simp only [Tryz.ntmps114, List.size_toArray, List.length_cons, List.length_nil, Nat.reduceAdd, Nat.reduceSub, Array.replicate_succ, Array.replicate_zero, List.push_toArray, List.append_toArray, List.nil_append, List.cons_append]
    have mh := xh.cell 0
    gi_wp2
    generalize W.alloc (.cells #[.func (.yield lp) #[] #[]] 109) = W0 at *
    refine ⟨trivial, ?_⟩
    refine (callsIn_wide.2 (C1.out _)).mono ?_
    rintro e w1 ⟨rfl, rfl⟩
    gi_wp2
    clear mh
    refine wpIn_wide.2 ?_
    refine wp_onlyNt ?_
    by_cases hr : ¬ hrt h s = true
    · have hrb : hrt h s = false := by simpa using hr
      have HE := hide (HCE.out.trans (if_neg (fun c => hr c.1)))
      rw [hrb] at C3
      clear hr hrb HCE
      refine wp_region_heldZ [] (fun w' => w'.cell? ⟨bh, 0, none⟩ = some (.int .u64 h) ∧ w'.cell? ⟨bmm, 0, none⟩ = some (.pointer (some ⟨gm, 0, none⟩)) ∧ w'.cell? ⟨bs, 0, none⟩ = some (.map (some bm)) ∧ (w'.cell? ⟨gm, 0, none⟩ = some (.int .i64 s) ∧ w'.cell? ⟨gm, 1, none⟩ = some (.int .i64 t) ∧ w'.cell? ⟨gm, 2, none⟩ = some (.int .i64 f) ∧ w'.cell? ⟨gm, 3, none⟩ = some (.int .i64 lm) ∧ w'.cell? ⟨gm, 4, none⟩ = some (.int .i64 p)) ∧ MapInt w' bm l.length (fun j => decide (j ∈ l))) (by kernel_rfl) (by exact ⟨xh.cell 0, xm.cell 0, xs.cell 0, mem5 M, MI⟩) (fun hHeld => ?_)
      replace xh := xh.drew
      replace xm := xm.drew
      replace xs := xs.drew
      replace xy := xy.drew
      replace M := M.drew
      replace MI := (show MapInt W0.drew _ _ _ from MI)
      replace PB := PB.drew
      generalize W0.drew = W1 at *
      refine' wpAnyZ_takeA (i := 0) (v := ?_) (opAt rfl) (by kernel_rfl) (by kernel_rfl) (by kernel_rfl) (by kernel_rfl) (fun _ _ _ h => h) (by assumption) (by rfl) (fun w hSw => ?_) ?_
      rotate_left
      · (try dsimp only at hSw); go_simp; (try with_reducible rfl)
      try simp only [Act.put, List.setIfInBounds_toArray, List.set_cons_zero, List.set_cons_succ]
      refine' wpAnyZ_takeA (i := 1) (v := ?_) (opAt rfl) (by kernel_rfl) (by kernel_rfl) (by kernel_rfl) (by kernel_rfl) (fun _ _ _ h => h) (by assumption) (by rfl) (fun w hSw => ?_) ?_
      rotate_left
      · (try dsimp only at hSw); go_simp; (try with_reducible rfl)
      try simp only [Act.put, List.setIfInBounds_toArray, List.set_cons_zero, List.set_cons_succ]
      refine' wpAnyZ_takeA (i := 2) (v := ?_) (opAt rfl) (by kernel_rfl) (by kernel_rfl) (by kernel_rfl) (by kernel_rfl) (fun _ _ _ h => h) (by assumption) (by rfl) (fun w hSw => ?_) ?_
      rotate_left
      · (try dsimp only at hSw); go_simp; (try with_reducible rfl)
      try simp only [Act.put, List.setIfInBounds_toArray, List.set_cons_zero, List.set_cons_succ]
      refine' wpAnyZ_takeA (i := 3) (v := ?_) (opAt rfl) (by kernel_rfl) (by kernel_rfl) (by kernel_rfl) (by kernel_rfl) (fun _ _ _ h => h) (by assumption) (by rfl) (fun w hSw => ?_) ?_
      rotate_left
      · (try dsimp only at hSw); go_simp; (try with_reducible rfl)
      try simp only [Act.put, List.setIfInBounds_toArray, List.set_cons_zero, List.set_cons_succ]
      refine' wpAnyZ_takeA (i := 4) (v := ?_) (opAt rfl) (by kernel_rfl) (by kernel_rfl) (by kernel_rfl) (by kernel_rfl) (fun _ _ _ h => h) (by assumption) (by rfl) (fun w hSw => ?_) ?_
      rotate_left
      · (try dsimp only at hSw); go_simp; (try with_reducible rfl)
      try simp only [Act.put, List.setIfInBounds_toArray, List.set_cons_zero, List.set_cons_succ]
      refine wpAnyZ_ready (rs := [5]) (by kernel_rfl) (by simp) ?_
      refine AllReadyZ.cons (opAt rfl) (fun K hK => ?_) ?_
      · skip
        go_simp
        refine (C2.out _).mono ?_
        rintro e w2 ⟨rfl, hb1⟩
        replace M := M.below hb1
        replace MI := MI.below hb1
        replace xh := xh.below hb1 xh.lt
        replace xm := xm.below hb1 xm.lt
        replace xs := xs.below hb1 xs.lt
        replace xy := xy.below hb1 xy.lt
        replace PB := PB.trans (hb1.mono PB.size)
        clear hb1
        try go_wp2_with fail
        refine hK.out _ _ (by exact ⟨xh.cell 0, xm.cell 0, xs.cell 0, mem5 M, MI⟩) (fun hHeld => ?_)
        clear hK K
        try simp only [Act.put, List.setIfInBounds_toArray, List.set_cons_zero, List.set_cons_succ]
        refine' wpAnyZ_takeA (i := 6) (v := ?_) (opAt rfl) (by kernel_rfl) (by kernel_rfl) (by kernel_rfl) (by kernel_rfl) (fun _ _ _ h => h) (by assumption) (by rfl) (fun w hSw => ?_) ?_
        rotate_left
        · (try dsimp only at hSw); go_simp; (try with_reducible rfl)
        try simp only [Act.put, List.setIfInBounds_toArray, List.set_cons_zero, List.set_cons_succ]
        refine wpAnyZ_ready (rs := [7]) (by kernel_rfl) (by simp) ?_
        refine AllReadyZ.cons (opAt rfl) (fun K hK => ?_) ?_
        · skip
          go_simp
          refine (C3.out _).mono ?_
          rintro e w3 ⟨rfl, rfl⟩
          try go_wp2_with fail
          refine hK.out _ _ (by exact ⟨xh.cell 0, xm.cell 0, xs.cell 0, mem5 M, MI⟩) (fun hHeld => ?_)
          clear hK K
          try simp only [Act.put, List.setIfInBounds_toArray, List.set_cons_zero, List.set_cons_succ]
          refine' wpAnyZ_takeA (i := 8) (v := ?_) (opAt rfl) (by kernel_rfl) (by kernel_rfl) (by kernel_rfl) (by kernel_rfl) (fun _ _ _ h => h) (by assumption) (by rfl) (fun w hSw => ?_) ?_
          rotate_left
          · (try dsimp only at hSw); go_simp; (try with_reducible rfl)
          try simp only [Act.put, List.setIfInBounds_toArray, List.set_cons_zero, List.set_cons_succ]
          refine' wpAnyZ_takeA (i := 9) (v := ?_) (opAt rfl) (by kernel_rfl) (by kernel_rfl) (by kernel_rfl) (by kernel_rfl) (fun _ _ _ h => h) (by assumption) (by rfl) (fun w hSw => ?_) ?_
          rotate_left
          · (try dsimp only at hSw); go_simp; (try with_reducible rfl)
          try simp only [Act.put, List.setIfInBounds_toArray, List.set_cons_zero, List.set_cons_succ]
          refine' wpAnyZ_skipA (i := 10) _ rfl (opAt rfl) (by kernel_rfl) (by kernel_rfl) (by kernel_rfl) (by kernel_rfl) (fun _ _ _ h => h) (by assumption) (by rfl) ?_
          try simp only [Act.put, List.setIfInBounds_toArray, List.set_cons_zero, List.set_cons_succ]
          refine' wpAnyZ_skipA (i := 11) _ rfl (opAt rfl) (by kernel_rfl) (by kernel_rfl) (by kernel_rfl) (by kernel_rfl) (fun _ _ _ h => h) (by assumption) (by rfl) ?_
          try simp only [Act.put, List.setIfInBounds_toArray, List.set_cons_zero, List.set_cons_succ]
          refine' wpAnyZ_skipA (i := 12) _ rfl (opAt rfl) (by kernel_rfl) (by kernel_rfl) (by kernel_rfl) (by kernel_rfl) (fun _ _ _ h => h) (by assumption) (by rfl) ?_
          try simp only [Act.put, List.setIfInBounds_toArray, List.set_cons_zero, List.set_cons_succ]
          refine' wpAnyZ_takeA (i := 13) (v := ?_) (opAt rfl) (by kernel_rfl) (by kernel_rfl) (by kernel_rfl) (by kernel_rfl) (fun _ _ _ h => h) (by assumption) (by rfl) (fun w hSw => ?_) ?_
          rotate_left
          · (try dsimp only at hSw); go_simp; (try with_reducible rfl)
          try simp only [Act.put, List.setIfInBounds_toArray, List.set_cons_zero, List.set_cons_succ]
          refine wpAnyZ_done (by kernel_rfl) ?_ _
          refine onlyNt_normal ?_
          have hJ2 := HJ.out _ _ _ H0.out (PartN.of_below PB)
          rw [← HE.out] at hJ2 MI
          clear HJ HY H0 IH
          gi_wp2
          exact ⟨_, results_none rfl _ _ _, ⟨_, rfl⟩, hJ2, MI⟩
        exact AllReadyZ.nil
      exact AllReadyZ.nil
    replace hr : hrt h s = true := by simpa using hr
    rw [hr] at C3
    by_cases hin : sl ∈ l
    · have HE := hide (HCE.out.trans (if_neg (fun c => c.2 hin)))
      have hd : decide (sl ∈ l) = true := by rw [decide_eq_true_iff]; exact hin
      clear HCE hin
      refine wp_region_heldZ [] (fun w' => w'.cell? ⟨bh, 0, none⟩ = some (.int .u64 h) ∧ w'.cell? ⟨bmm, 0, none⟩ = some (.pointer (some ⟨gm, 0, none⟩)) ∧ w'.cell? ⟨bs, 0, none⟩ = some (.map (some bm)) ∧ (w'.cell? ⟨gm, 0, none⟩ = some (.int .i64 s) ∧ w'.cell? ⟨gm, 1, none⟩ = some (.int .i64 t) ∧ w'.cell? ⟨gm, 2, none⟩ = some (.int .i64 f) ∧ w'.cell? ⟨gm, 3, none⟩ = some (.int .i64 lm) ∧ w'.cell? ⟨gm, 4, none⟩ = some (.int .i64 p)) ∧ MapInt w' bm l.length (fun j => decide (j ∈ l))) (by kernel_rfl) (by exact ⟨xh.cell 0, xm.cell 0, xs.cell 0, mem5 M, MI⟩) (fun hHeld => ?_)
      replace xh := xh.drew
      replace xm := xm.drew
      replace xs := xs.drew
      replace xy := xy.drew
      replace M := M.drew
      replace MI := (show MapInt W0.drew _ _ _ from MI)
      replace PB := PB.drew
      generalize W0.drew = W1 at *
      refine' wpAnyZ_takeA (i := 0) (v := ?_) (opAt rfl) (by kernel_rfl) (by kernel_rfl) (by kernel_rfl) (by kernel_rfl) (fun _ _ _ h => h) (by assumption) (by rfl) (fun w hSw => ?_) ?_
      rotate_left
      · (try dsimp only at hSw); go_simp; (try with_reducible rfl)
      try simp only [Act.put, List.setIfInBounds_toArray, List.set_cons_zero, List.set_cons_succ]
      refine' wpAnyZ_takeA (i := 1) (v := ?_) (opAt rfl) (by kernel_rfl) (by kernel_rfl) (by kernel_rfl) (by kernel_rfl) (fun _ _ _ h => h) (by assumption) (by rfl) (fun w hSw => ?_) ?_
      rotate_left
      · (try dsimp only at hSw); go_simp; (try with_reducible rfl)
      try simp only [Act.put, List.setIfInBounds_toArray, List.set_cons_zero, List.set_cons_succ]
      refine' wpAnyZ_takeA (i := 2) (v := ?_) (opAt rfl) (by kernel_rfl) (by kernel_rfl) (by kernel_rfl) (by kernel_rfl) (fun _ _ _ h => h) (by assumption) (by rfl) (fun w hSw => ?_) ?_
      rotate_left
      · (try dsimp only at hSw); go_simp; (try with_reducible rfl)
      try simp only [Act.put, List.setIfInBounds_toArray, List.set_cons_zero, List.set_cons_succ]
      refine' wpAnyZ_takeA (i := 3) (v := ?_) (opAt rfl) (by kernel_rfl) (by kernel_rfl) (by kernel_rfl) (by kernel_rfl) (fun _ _ _ h => h) (by assumption) (by rfl) (fun w hSw => ?_) ?_
      rotate_left
      · (try dsimp only at hSw); go_simp; (try with_reducible rfl)
      try simp only [Act.put, List.setIfInBounds_toArray, List.set_cons_zero, List.set_cons_succ]
      refine' wpAnyZ_takeA (i := 4) (v := ?_) (opAt rfl) (by kernel_rfl) (by kernel_rfl) (by kernel_rfl) (by kernel_rfl) (fun _ _ _ h => h) (by assumption) (by rfl) (fun w hSw => ?_) ?_
      rotate_left
      · (try dsimp only at hSw); go_simp; (try with_reducible rfl)
      try simp only [Act.put, List.setIfInBounds_toArray, List.set_cons_zero, List.set_cons_succ]
      refine wpAnyZ_ready (rs := [5]) (by kernel_rfl) (by simp) ?_
      refine AllReadyZ.cons (opAt rfl) (fun K hK => ?_) ?_
      · skip
        go_simp
        refine (C2.out _).mono ?_
        rintro e w2 ⟨rfl, hb1⟩
        replace M := M.below hb1
        replace MI := MI.below hb1
        replace xh := xh.below hb1 xh.lt
        replace xm := xm.below hb1 xm.lt
        replace xs := xs.below hb1 xs.lt
        replace xy := xy.below hb1 xy.lt
        replace PB := PB.trans (hb1.mono PB.size)
        clear hb1
        try go_wp2_with fail
        refine hK.out _ _ (by exact ⟨xh.cell 0, xm.cell 0, xs.cell 0, mem5 M, MI⟩) (fun hHeld => ?_)
        clear hK K
        try simp only [Act.put, List.setIfInBounds_toArray, List.set_cons_zero, List.set_cons_succ]
        refine' wpAnyZ_takeA (i := 6) (v := ?_) (opAt rfl) (by kernel_rfl) (by kernel_rfl) (by kernel_rfl) (by kernel_rfl) (fun _ _ _ h => h) (by assumption) (by rfl) (fun w hSw => ?_) ?_
        rotate_left
        · (try dsimp only at hSw); go_simp; (try with_reducible rfl)
        try simp only [Act.put, List.setIfInBounds_toArray, List.set_cons_zero, List.set_cons_succ]
        refine wpAnyZ_ready (rs := [7]) (by kernel_rfl) (by simp) ?_
        refine AllReadyZ.cons (opAt rfl) (fun K hK => ?_) ?_
        · skip
          go_simp
          refine (C3.out _).mono ?_
          rintro e w3 ⟨rfl, rfl⟩
          try go_wp2_with fail
          refine hK.out _ _ (by exact ⟨xh.cell 0, xm.cell 0, xs.cell 0, mem5 M, MI⟩) (fun hHeld => ?_)
          clear hK K
          try simp only [Act.put, List.setIfInBounds_toArray, List.set_cons_zero, List.set_cons_succ]
          refine' wpAnyZ_takeA (i := 8) (v := ?_) (opAt rfl) (by kernel_rfl) (by kernel_rfl) (by kernel_rfl) (by kernel_rfl) (fun _ _ _ h => h) (by assumption) (by rfl) (fun w hSw => ?_) ?_
          rotate_left
          · (try dsimp only at hSw); go_simp; (try with_reducible rfl)
          try simp only [Act.put, List.setIfInBounds_toArray, List.set_cons_zero, List.set_cons_succ]
          refine' wpAnyZ_takeA (i := 9) (v := ?_) (opAt rfl) (by kernel_rfl) (by kernel_rfl) (by kernel_rfl) (by kernel_rfl) (fun _ _ _ h => h) (by assumption) (by rfl) (fun w hSw => ?_) ?_
          rotate_left
          · (try dsimp only at hSw); go_simp; (try with_reducible rfl)
          try simp only [Act.put, List.setIfInBounds_toArray, List.set_cons_zero, List.set_cons_succ]
          refine' wpAnyZ_takeA (i := 10) (v := ?_) (opAt rfl) (by kernel_rfl) (by kernel_rfl) (by kernel_rfl) (by kernel_rfl) (fun _ _ _ h => h) (by assumption) (by rfl) (fun w hSw => ?_) ?_
          rotate_left
          · (try dsimp only at hSw); go_simp; (try with_reducible rfl)
          try simp only [Act.put, List.setIfInBounds_toArray, List.set_cons_zero, List.set_cons_succ]
          refine' wpAnyZ_takeA (i := 11) (v := ?_) (opAt rfl) (by kernel_rfl) (by kernel_rfl) (by kernel_rfl) (by kernel_rfl) (fun _ _ _ h => h) (by assumption) (by rfl) (fun w hSw => ?_) ?_
          rotate_left
          · (try dsimp only at hSw); go_simp; (try with_reducible rfl)
          try simp only [Act.put, List.setIfInBounds_toArray, List.set_cons_zero, List.set_cons_succ]
          refine' wpAnyZ_takeA (i := 12) (v := ?_) (opAt rfl) (by kernel_rfl) (by kernel_rfl) (by kernel_rfl) (by kernel_rfl) (fun _ _ _ h => h) (by assumption) (by rfl) (fun w hSw => ?_) ?_
          rotate_left
          · (try dsimp only at hSw); have hlk := hSw.2.2.2.2.look sl hsw; go_simp; (try with_reducible rfl)
          try simp only [Act.put, List.setIfInBounds_toArray, List.set_cons_zero, List.set_cons_succ]
          refine' wpAnyZ_takeA (i := 13) (v := ?_) (opAt rfl) (by kernel_rfl) (by kernel_rfl) (by kernel_rfl) (by kernel_rfl) (fun _ _ _ h => h) (by assumption) (by rfl) (fun w hSw => ?_) ?_
          rotate_left
          · (try dsimp only at hSw); go_simp; (try with_reducible rfl)
          try simp only [Act.put, List.setIfInBounds_toArray, List.set_cons_zero, List.set_cons_succ]
          refine wpAnyZ_done (by kernel_rfl) ?_ _
          refine onlyNt_normal ?_
          have hJ2 := HJ.out _ _ _ H0.out (PartN.of_below PB)
          rw [← HE.out] at hJ2 MI
          clear HJ HY H0 IH
          gi_wp2
          exact ⟨_, results_none rfl _ _ _, ⟨_, rfl⟩, hJ2, MI⟩
        exact AllReadyZ.nil
      exact AllReadyZ.nil
    have HE := hide (HCE.out.trans (if_pos ⟨hr, hin⟩))
    have hd : decide (sl ∈ l) = false := by rw [decide_eq_false_iff_not]; exact hin
    have HR := hide (HSL.out hr)
    have HNI := hide hin
    clear HCE hin hr HSL
    refine wp_region_heldZ [] (fun w' => w'.cell? ⟨bh, 0, none⟩ = some (.int .u64 h) ∧ w'.cell? ⟨bmm, 0, none⟩ = some (.pointer (some ⟨gm, 0, none⟩)) ∧ w'.cell? ⟨bs, 0, none⟩ = some (.map (some bm)) ∧ (w'.cell? ⟨gm, 0, none⟩ = some (.int .i64 s) ∧ w'.cell? ⟨gm, 1, none⟩ = some (.int .i64 t) ∧ w'.cell? ⟨gm, 2, none⟩ = some (.int .i64 f) ∧ w'.cell? ⟨gm, 3, none⟩ = some (.int .i64 lm) ∧ w'.cell? ⟨gm, 4, none⟩ = some (.int .i64 p)) ∧ MapInt w' bm l.length (fun j => decide (j ∈ l))) (by kernel_rfl) (by exact ⟨xh.cell 0, xm.cell 0, xs.cell 0, mem5 M, MI⟩) (fun hHeld => ?_)
    replace xh := xh.drew
    replace xm := xm.drew
    replace xs := xs.drew
    replace xy := xy.drew
    replace M := M.drew
    replace MI := (show MapInt W0.drew _ _ _ from MI)
    replace PB := PB.drew
    generalize W0.drew = W1 at *
    refine' wpAnyZ_takeA (i := 0) (v := ?_) (opAt rfl) (by kernel_rfl) (by kernel_rfl) (by kernel_rfl) (by kernel_rfl) (fun _ _ _ h => h) (by assumption) (by rfl) (fun w hSw => ?_) ?_
    rotate_left
    · (try dsimp only at hSw); go_simp; (try with_reducible rfl)
    try simp only [Act.put, List.setIfInBounds_toArray, List.set_cons_zero, List.set_cons_succ]
    refine' wpAnyZ_takeA (i := 1) (v := ?_) (opAt rfl) (by kernel_rfl) (by kernel_rfl) (by kernel_rfl) (by kernel_rfl) (fun _ _ _ h => h) (by assumption) (by rfl) (fun w hSw => ?_) ?_
    rotate_left
    · (try dsimp only at hSw); go_simp; (try with_reducible rfl)
    try simp only [Act.put, List.setIfInBounds_toArray, List.set_cons_zero, List.set_cons_succ]
    refine' wpAnyZ_takeA (i := 2) (v := ?_) (opAt rfl) (by kernel_rfl) (by kernel_rfl) (by kernel_rfl) (by kernel_rfl) (fun _ _ _ h => h) (by assumption) (by rfl) (fun w hSw => ?_) ?_
    rotate_left
    · (try dsimp only at hSw); go_simp; (try with_reducible rfl)
    try simp only [Act.put, List.setIfInBounds_toArray, List.set_cons_zero, List.set_cons_succ]
    refine' wpAnyZ_takeA (i := 3) (v := ?_) (opAt rfl) (by kernel_rfl) (by kernel_rfl) (by kernel_rfl) (by kernel_rfl) (fun _ _ _ h => h) (by assumption) (by rfl) (fun w hSw => ?_) ?_
    rotate_left
    · (try dsimp only at hSw); go_simp; (try with_reducible rfl)
    try simp only [Act.put, List.setIfInBounds_toArray, List.set_cons_zero, List.set_cons_succ]
    refine' wpAnyZ_takeA (i := 4) (v := ?_) (opAt rfl) (by kernel_rfl) (by kernel_rfl) (by kernel_rfl) (by kernel_rfl) (fun _ _ _ h => h) (by assumption) (by rfl) (fun w hSw => ?_) ?_
    rotate_left
    · (try dsimp only at hSw); go_simp; (try with_reducible rfl)
    try simp only [Act.put, List.setIfInBounds_toArray, List.set_cons_zero, List.set_cons_succ]
    refine wpAnyZ_ready (rs := [5]) (by kernel_rfl) (by simp) ?_
    refine AllReadyZ.cons (opAt rfl) (fun K hK => ?_) ?_
    · skip
      go_simp
      refine (C2.out _).mono ?_
      rintro e w2 ⟨rfl, hb1⟩
      replace M := M.below hb1
      replace MI := MI.below hb1
      replace xh := xh.below hb1 xh.lt
      replace xm := xm.below hb1 xm.lt
      replace xs := xs.below hb1 xs.lt
      replace xy := xy.below hb1 xy.lt
      replace PB := PB.trans (hb1.mono PB.size)
      clear hb1
      try go_wp2_with fail
      refine hK.out _ _ (by exact ⟨xh.cell 0, xm.cell 0, xs.cell 0, mem5 M, MI⟩) (fun hHeld => ?_)
      clear hK K
      try simp only [Act.put, List.setIfInBounds_toArray, List.set_cons_zero, List.set_cons_succ]
      refine' wpAnyZ_takeA (i := 6) (v := ?_) (opAt rfl) (by kernel_rfl) (by kernel_rfl) (by kernel_rfl) (by kernel_rfl) (fun _ _ _ h => h) (by assumption) (by rfl) (fun w hSw => ?_) ?_
      rotate_left
      · (try dsimp only at hSw); go_simp; (try with_reducible rfl)
      try simp only [Act.put, List.setIfInBounds_toArray, List.set_cons_zero, List.set_cons_succ]
      refine wpAnyZ_ready (rs := [7]) (by kernel_rfl) (by simp) ?_
      refine AllReadyZ.cons (opAt rfl) (fun K hK => ?_) ?_
      · skip
        go_simp
        refine (C3.out _).mono ?_
        rintro e w3 ⟨rfl, rfl⟩
        try go_wp2_with fail
        refine hK.out _ _ (by exact ⟨xh.cell 0, xm.cell 0, xs.cell 0, mem5 M, MI⟩) (fun hHeld => ?_)
        clear hK K
        try simp only [Act.put, List.setIfInBounds_toArray, List.set_cons_zero, List.set_cons_succ]
        refine' wpAnyZ_takeA (i := 8) (v := ?_) (opAt rfl) (by kernel_rfl) (by kernel_rfl) (by kernel_rfl) (by kernel_rfl) (fun _ _ _ h => h) (by assumption) (by rfl) (fun w hSw => ?_) ?_
        rotate_left
        · (try dsimp only at hSw); go_simp; (try with_reducible rfl)
        try simp only [Act.put, List.setIfInBounds_toArray, List.set_cons_zero, List.set_cons_succ]
        refine' wpAnyZ_takeA (i := 9) (v := ?_) (opAt rfl) (by kernel_rfl) (by kernel_rfl) (by kernel_rfl) (by kernel_rfl) (fun _ _ _ h => h) (by assumption) (by rfl) (fun w hSw => ?_) ?_
        rotate_left
        · (try dsimp only at hSw); go_simp; (try with_reducible rfl)
        try simp only [Act.put, List.setIfInBounds_toArray, List.set_cons_zero, List.set_cons_succ]
        refine' wpAnyZ_takeA (i := 10) (v := ?_) (opAt rfl) (by kernel_rfl) (by kernel_rfl) (by kernel_rfl) (by kernel_rfl) (fun _ _ _ h => h) (by assumption) (by rfl) (fun w hSw => ?_) ?_
        rotate_left
        · (try dsimp only at hSw); go_simp; (try with_reducible rfl)
        try simp only [Act.put, List.setIfInBounds_toArray, List.set_cons_zero, List.set_cons_succ]
        refine' wpAnyZ_takeA (i := 11) (v := ?_) (opAt rfl) (by kernel_rfl) (by kernel_rfl) (by kernel_rfl) (by kernel_rfl) (fun _ _ _ h => h) (by assumption) (by rfl) (fun w hSw => ?_) ?_
        rotate_left
        · (try dsimp only at hSw); go_simp; (try with_reducible rfl)
        try simp only [Act.put, List.setIfInBounds_toArray, List.set_cons_zero, List.set_cons_succ]
        refine' wpAnyZ_takeA (i := 12) (v := ?_) (opAt rfl) (by kernel_rfl) (by kernel_rfl) (by kernel_rfl) (by kernel_rfl) (fun _ _ _ h => h) (by assumption) (by rfl) (fun w hSw => ?_) ?_
        rotate_left
        · (try dsimp only at hSw); have hlk := hSw.2.2.2.2.look sl hsw; go_simp; (try with_reducible rfl)
        try simp only [Act.put, List.setIfInBounds_toArray, List.set_cons_zero, List.set_cons_succ]
        refine' wpAnyZ_takeA (i := 13) (v := ?_) (opAt rfl) (by kernel_rfl) (by kernel_rfl) (by kernel_rfl) (by kernel_rfl) (fun _ _ _ h => h) (by assumption) (by rfl) (fun w hSw => ?_) ?_
        rotate_left
        · (try dsimp only at hSw); go_simp; (try with_reducible rfl)
        try simp only [Act.put, List.setIfInBounds_toArray, List.set_cons_zero, List.set_cons_succ]
        refine wpAnyZ_done (by kernel_rfl) ?_ _
        refine onlyNt_normal ?_
        have ms := xs.cell 0
        have hNN := nice_snoc HN.out HR.out HNI.out
        have hlen : l.length < s.toNat := by have h1 := nice_le hNN (by have := HS.out; omega); simp at h1; omega
        have HNN := hide hNN
        have HLEN := hide hlen
        clear hNN hlen
        obtain ⟨w3, hrun, MI3, hg3⟩ := MI.mark (show l.length < maxLen by have h1 := HLEN.out; have h2 := HS.out; unfold maxLen; omega) sl hsw
        have P3 := (PartN.of_below (n := W.heap.size) (bm := bm) PB).trans (PartN.of_grownBy hg3)
        have hF : (fun j => if j = sl then true else decide (j ∈ l)) = (fun j => decide (j ∈ l ++ [sl])) := by
          funext j
          by_cases hj : j = sl
          · subst hj; simp
          · rw [if_neg hj]; simp [hj]
        rw [hF, show l.length + 1 = (l ++ [sl]).length by simp] at MI3
        clear hF
        replace xm := xm.grown hg3 (fun e => HXB.out.1 (by injection e))
        replace xs := xs.grown hg3 (fun e => HXB.out.2 (by injection e))
        have hyb : W.heap.size ≠ bm := fun e => by have := HBM.out; omega
        replace xy := xy.grown hg3 (fun e => hyb (by injection e))
        replace M := M.grown hg3 (fun e => HMB.out.1 (by injection e)) (fun e => HMB.out.2 (by injection e))
        have hsz3 : W.heap.size + 1 ≤ w3.heap.size := Nat.le_trans xy.lt (Nat.le_refl _)
        have HSZ3 := hide hsz3
        clear hsz3 hyb
        have my := xy.cell 0
        have hJ3 := HJ.out _ _ _ H0.out P3
        obtain ⟨fn, tmps, assign, body, hy, hR⟩ := HY.out l sl w3 HLEN.out hJ3
        clear hJ3 hg3 PB MI xh H0
        gi_wp2
        refine (RoundIn.anyDepth rfl hR).mono ?_
        rintro e w4 ⟨rfl, hJ4, hk4⟩
        clear hrun hy hR ms my
        replace MI := MI3.keepX hk4
        clear MI3
        replace M := M.keepX hk4
        replace xm := hk4.blk xm (by decide) (by decide)
        replace xs := hk4.blk xs (by decide) (by decide)
        replace xy := hk4.blk xy (by decide) (by decide)
        have AN := hide (fun w2 (h2 : MemOk w2 gm gw s t f lm p ws) => anode_yes gm gw s t f lm p sl ws w2 HS.out HT.out HF.out (by have := HR.out; omega) h2 H64.out)
        have hgo : (ndOf ws t f sl).1 = nodI ws t f sl := rfl
        have hgv : (ndOf ws t f sl).2 = nodV ws t f sl := rfl
        rw [hgo, hgv] at HE
        clear hgo hgv
        have HV64 := hide (show ∀ x ∈ nodV ws t f sl, W64 x from rowL_w64 H64.out _ _)
        have HVL := hide (show (nodV ws t f sl).length ≤ 64 by have h1 := nodN_le (t := t) (k := sl) H64.out HF.out; have h2 := HF.out; have h3 := rowL_len ws (fun i => nB t f sl + 3 + f + i) (nodN ws t f sl); unfold nodV; omega)
        generalize nodK ws t f sl = ks at *
        generalize nodV ws t f sl = vs at *
        generalize nodL ws t f sl = lk at *
        generalize nodI ws t f sl = inn at *
        have mm := xm.cell 0
        have hsz4 := hide hk4.size
        gi_wp2
        refine ⟨trivial, ?_⟩
        refine (callsIn_wide.2 (AN.out _ M)).mono ?_
        rintro e w5 ⟨⟨v, rfl, ⟨kk, uu, rfl, o1, o2⟩⟩, hb1⟩
        obtain ⟨Ak, ck, rfl⟩ := o1.val
        obtain ⟨Av, cv, rfl⟩ := o2.val
        clear o1
        have bg := Blk.new w5 82 #[.bool false, .slice none 0 0, .slice none 0 0, .int .u64 0]
        have zg := fun i => bg.frozen i
        have mg := fun i => bg.cell i
        have B5 := (Below.refl w5.heap.size w5).alloc (Nat.le_refl _) (.cells #[.bool inn, .slice Ak ks.length ck, .slice Av vs.length cv, .int .u64 lk] 82)
        have P5 := (PartN.of_below (n := W.heap.size) (bm := bm) hb1).trans (PartN.of_below B5)
        have hJ5 := HJ.out _ _ _ hJ4 P5
        replace MI := (MI.below hb1).below B5
        clear mm AN hJ4
        cases inn with
        | false =>
          replace HE := HE.out.trans (if_neg (by decide))
          rw [← HE] at hJ5 MI
          clear HE HY HJ IH
          gi_wp2
          exact ⟨_, results_none rfl _ _ _, ⟨_, rfl⟩, hJ5, MI⟩
        | true =>
          replace HE := hide (HE.out.trans (if_pos rfl))
          have HSZ5 := hide (show W.heap.size + 1 ≤ w5.heap.size by have h1 := HSZ3.out; have h2 := hsz4.out; have h3 := hb1.size; omega)
          have HLW := hide (LoopW.mk (Ds := []) hJ5 MI (KeepW.mk ((M.below hb1).below B5) (xm.below hb1 xm.lt |>.below B5 (xm.below hb1 xm.lt).lt) (xs.below hb1 xs.lt |>.below B5 (xs.below hb1 xs.lt).lt) (xy.below hb1 xy.lt |>.below B5 (xy.below hb1 xy.lt).lt) (own_mono (own_below o2 B5) (show W.heap.size ≤ w4.heap.size by have h1 := HSZ3.out; have h2 := hsz4.out; omega)) ⟨by simp, by simp⟩ (by rw [World.size_alloc]; omega)) : LoopW J (fun k => comesK (ndOf ws t f) s fuel vs (l ++ [sl]) k) bm gm gw s t f lm p ws bmm bs W.heap.size lp vs (.slice Av vs.length cv) w5.heap.size 0 [] _)
          clear hJ5 MI B5 P5 o2 hk4 hb1 M xm xs xy
          gi_wp2
          generalize w5.alloc (.cells #[.bool true, .slice Ak ks.length ck, .slice Av vs.length cv, .int .u64 lk] 82) = w6 at *
          generalize w5.heap.size = g5 at *
          clear zg mg bg
          refine wpIn_loop (fun a W' => ∃ (k : Nat) (q : Int) (u8 u42 u43 u44 u45 u46 u47 u48 u54 : Value) (Ds : List Nat), q = (k : Int) ∧ k ≤ vs.length ∧ a = { tmps := #[.func (.yield lp) #[] #[], .pointer (some ⟨bh, 0, none⟩), .pointer (some ⟨bmm, 0, none⟩), .pointer (some ⟨bs, 0, none⟩), .pointer (some ⟨W.heap.size, 0, none⟩), .int .i64 sl, .pointer (some ⟨g5, 0, none⟩), undef, u8, undef, .int .u64 h, .int .i64 sl, .int .u64 h, .pointer (some ⟨gm, 0, none⟩), .pointer (some ⟨gm, 0, none⟩), .pointer (some ⟨gm, 0, none⟩), .agg #[.int .i64 s, .int .i64 t, .int .i64 f, .int .i64 lm, .int .i64 p], .agg #[.int .i64 s, .int .i64 t, .int .i64 f, .int .i64 lm, .int .i64 p], .int .i64 s, .bool true, .bool false, .bool false, .map (some bm), .int .i64 sl, .bool false, .bool false, .map (some bm), .int .i64 sl, .func (.yield lp) #[] #[], .int .i64 sl, .bool true, .bool false, .pointer (some ⟨gm, 0, none⟩), .int .i64 sl, .agg #[.bool true, .slice Ak ks.length ck, .slice Av vs.length cv, .int .u64 lk], .pointer (some ⟨g5, 0, none⟩), .bool true, .bool false, .pointer (some ⟨g5, 2, none⟩), .slice Av vs.length cv, .int .i64 vs.length, .int .i64 q, u42, u43, u44, u45, u46, u47, u48, undef, undef, undef, undef, undef, u54], defers := Ds.map markOf } ∧ LoopW J (fun k => comesK (ndOf ws t f) s fuel vs (l ++ [sl]) k) bm gm gw s t f lm p ws bmm bs W.heap.size lp vs (.slice Av vs.length cv) g5 k Ds W') (fun a _ => vs.length - idxOf a) ⟨0, 0, _, _, _, _, _, _, _, _, _, [], rfl, Nat.zero_le _, rfl, HLW.out⟩ ?_
          rintro a wr ⟨k, q, u8, u42, u43, u44, u45, u46, u47, u48, u54, Ds, hq, hk, rfl, lw⟩
          have HQ := hide hq
          have hq0 : 0 ≤ q := by omega
          have hq1 : q ≤ 64 := by have := HVL.out; omega
          clear HLW hq
          by_cases hlt : k < vs.length
          · have HLT := hide hlt
            have hqv : q < (vs.length : Int) := by have := HQ.out; omega
            obtain ⟨hJ, MI, kw⟩ := lw
            obtain ⟨M, xm, xs, xy, ov, mk, hsz⟩ := kw
            obtain ⟨av, rfl, hkl, z1⟩ := (Reads.of_own ov).word hlt
            have hc64 := hide (HV64.out _ (List.getElem_mem hkl))
            have HK := hide (comesK_succ (ndOf ws t f) s fuel vs (l ++ [sl]) k hlt)
            generalize vs[k] = c at *
            rw [show k = q.toNat by have := HQ.out; omega] at z1
            have C := hide (fun w2 => below_in 4 (some ⟨gm, 0, none⟩) c (some bm) w2)
            have mm := xm.cell 0
            have ms := xs.cell 0
            gi_wp2
            refine ⟨trivial, ?_⟩
            refine (C.out _).mono ?_
            rintro e w7 ⟨rfl, rfl⟩
            clear mm ms z1
            gi_wp2
            have hn1 := comesK_nice (nd := ndOf ws t f) (s := s) (n := fuel) (vs := vs) HNN.out k hk
            have hfu2 : s.toNat + 1 ≤ (comesK (ndOf ws t f) s fuel vs (l ++ [sl]) k).length + fuel := by
              have h1 := hn1.2
              rw [List.length_append] at h1
              simp only [List.length_singleton] at h1
              have h2 := HFU.out
              omega
            have Pb := (((Below.refl wr.heap.size wr).alloc (Nat.le_refl _) (.cells #[.pointer (some ⟨gm, 0, none⟩)] 27)).alloc (by simp only [World.size_alloc]; omega) (.cells #[.int .u64 c] 32)).alloc (by simp only [World.size_alloc]; omega) (.cells #[.map (some bm)] 131)
            have b1 := ((Blk.new wr 27 #[.pointer (some ⟨gm, 0, none⟩)]).alloc (.cells #[.int .u64 c] 32)).alloc (.cells #[.map (some bm)] 131)
            have b2 := (Blk.new (wr.alloc (.cells #[.pointer (some ⟨gm, 0, none⟩)] 27)) 32 #[.int .u64 c]).alloc (.cells #[.map (some bm)] 131)
            have b3 := Blk.new ((wr.alloc (.cells #[.pointer (some ⟨gm, 0, none⟩)] 27)).alloc (.cells #[.int .u64 c] 32)) 131 #[.map (some bm)]
            simp only [World.size_alloc] at b2 b3
            generalize ((wr.alloc (.cells #[.pointer (some ⟨gm, 0, none⟩)] 27)).alloc (.cells #[.int .u64 c] 32)).alloc (.cells #[.map (some bm)] 131) = w7 at *
            have kw7 := (KeepW.mk (base := 0) (bm := bm) M xm xs xy ov mk hsz).keepX (KeepX.of_below (l := lp) Pb)
            have hJ7 := HJ.out _ _ _ hJ (PartN.of_below Pb)
            have HSEQ := hide (IH.out c _ w7 (wr.heap.size + 1) wr.heap.size (wr.heap.size + 1 + 1) bm hc64.out hn1.1 hfu2 (M.below Pb) (MI.below Pb) b2 b1 b3)
            have hW7 : W.heap.size < w7.heap.size := Nat.lt_of_lt_of_le kw7.xy.lt (Nat.le_refl _)
            have HW7 := hide hW7
            have hDs := hide kw7.mks.lt
            clear hn1 hfu2 b1 b2 b3 M xm xs xy ov mk hsz hJ MI IH hW7
            refine rangeFunc_seen (gf := 114) (lb := #[.pointer (some ⟨wr.heap.size + 1, 0, none⟩), .pointer (some ⟨wr.heap.size, 0, none⟩), .pointer (some ⟨wr.heap.size + 1 + 1, 0, none⟩)]) rfl (enters_of Tryz.func114 (by kernel_rfl) rfl) HSEQ.out (Nat.lt_trans HBM.out HW7.out) (fun A k o hk hf => hf.putObj o (by have h1 := HBM.out; have h2 := HW7.out; omega)) rfl
              (fun xs W' => J xs W' ∧ KeepW gm gw s t f lm p ws bmm bs W.heap.size lp vs (.slice (some av) vs.length cv) g5 bm 0 Ds W')
              (fun xs A A' h hp => ⟨HJ.out _ _ _ h.1 (hp.mono (Nat.le_of_lt HW7.out)), h.2.part hp HMB.out HXB.out HBM.out hDs.out⟩)
              ⟨hJ7, kw7⟩
              (fun (x : Int) => { tmps := #[.func (.yield lp) #[] #[], .pointer (some ⟨bh, 0, none⟩), .pointer (some ⟨bmm, 0, none⟩), .pointer (some ⟨bs, 0, none⟩), .pointer (some ⟨W.heap.size, 0, none⟩), .int .i64 sl, .pointer (some ⟨g5, 0, none⟩), undef, .int .u64 c, .int .i64 x, .int .u64 h, .int .i64 sl, .int .u64 h, .pointer (some ⟨gm, 0, none⟩), .pointer (some ⟨gm, 0, none⟩), .pointer (some ⟨gm, 0, none⟩), .agg #[.int .i64 s, .int .i64 t, .int .i64 f, .int .i64 lm, .int .i64 p], .agg #[.int .i64 s, .int .i64 t, .int .i64 f, .int .i64 lm, .int .i64 p], .int .i64 s, .bool true, .bool false, .bool false, .map (some bm), .int .i64 sl, .bool false, .bool false, .map (some bm), .int .i64 sl, .func (.yield lp) #[] #[], .int .i64 sl, .bool true, .bool false, .pointer (some ⟨gm, 0, none⟩), .int .i64 sl, .agg #[.bool true, .slice Ak ks.length ck, .slice (some av) vs.length cv, .int .u64 lk], .pointer (some ⟨g5, 0, none⟩), .bool true, .bool false, .pointer (some ⟨g5, 2, none⟩), .slice (some av) vs.length cv, .int .i64 vs.length, .int .i64 q, .bool true, .pointer (some (av.add q.toNat)), .int .u64 c, .pointer (some ⟨gm, 0, none⟩), .int .u64 c, .map (some bm), .func (.func 114) #[] #[.pointer (some ⟨wr.heap.size + 1, 0, none⟩), .pointer (some ⟨wr.heap.size, 0, none⟩), .pointer (some ⟨wr.heap.size + 1 + 1, 0, none⟩)], .int .i64 x, undef, undef, undef, undef, u54], defers := [] }) ?assign ?body ?done
            case assign =>
              intro l9 x W9 K hK
              gi_wp2
              exact hK
            case body =>
              rintro l9 xs9 x W9 hl1 hl2 ⟨r9, hr9⟩ ⟨hJ9, kw9⟩ hlen9
              obtain ⟨fn9, tmps9, assign9, body9, hy9, hR9⟩ := HY.out xs9 x W9 hlen9 hJ9
              have my := kw9.xy.cell 0
              have HL9 := hide (show lp < l9 by have h1 := HLP.out; have h2 := HW7.out; omega)
              have HR9 := hide hr9
              clear hJ9 hr9 hl1 hl2
              gi_wp2
              refine RoundIn.mono (RoundIn.anyDepth rfl hR9) ?_
              rintro e w9 ⟨rfl, hJ10, hk10⟩
              clear my
              gi_wp2
              exact ⟨hk10.mono (Nat.le_of_lt HL9.out), (hk10.same _ _ HR9.out HL9.out).trans HR9.out.symm, hJ10, kw9.keepX hk10⟩
            case done =>
              rintro D W9 hD ⟨hJ9, kw9⟩ hMI9 hK9
              have hnd : D ∉ Ds := fun h => by have h1 := hDs.out D h; omega
              have hmk := hide (show Marks W.heap.size (D :: Ds) W9 from ⟨List.nodup_cons.2 ⟨hnd, kw9.mks.1⟩, fun D' h' => by
                rcases List.mem_cons.1 h' with rfl | h'
                · exact ⟨by have h2 := HW7.out; omega, hK9⟩
                · exact kw9.mks.2 D' h'⟩)
              rw [← HK.out] at hJ9 hMI9
              have HJ9 := hide hJ9
              have HM9 := hide hMI9
              have HKW := hide kw9
              clear hJ9 hMI9 kw9 hK9 hD hnd kw7 hJ7 Pb
              gi_wp2
              exact ⟨⟨k + 1, q + 1, _, _, _, _, _, _, _, _, _, D :: Ds, by have := HQ.out; omega, HLT.out, rfl, ⟨HJ9.out, HM9.out, ⟨HKW.out.M, HKW.out.xm, HKW.out.xs, HKW.out.xy, HKW.out.ov, hmk.out, HKW.out.sz⟩⟩⟩, by show vs.length - (q + 1).toNat < vs.length - q.toNat; have := HLT.out; have := HQ.out; omega⟩
          · have hkv : k = vs.length := by omega
            subst hkv
            have hqv : ¬ q < (vs.length : Int) := by have := HQ.out; omega
            obtain ⟨hJ, MI, kw⟩ := lw
            have hmk := hide kw.mks
            rw [show comesK (ndOf ws t f) s fuel vs (l ++ [sl]) vs.length = lout from (comesK_all _ _ _ _ _).trans HE.out.symm] at hJ MI
            have hJ2 := hide (fun W' (hS : Shut W.heap.size wr W') => HJ.out _ _ _ hJ hS.part)
            have hMI := hide MI
            clear hJ MI kw IH HY HJ
            gi_wp2
            refine leaves_marks Ds _ hmk.out ?_
            intro W9 hS
            exact ⟨_, results_none rfl _ _ _, ⟨_, rfl⟩, hJ2.out _ hS, hMI.out.shut hS HBM.out⟩
      exact AllReadyZ.nil
    exact AllReadyZ.nil
end Go.Proofs.YtlnckjemfabckaaGreatDoor

/-
  arena.Tree of any memory; chapter 10's example.
-/
namespace Go.Proofs.YtlnckjemfabckaaGreatDoor
open Go.RowKit Go.Shelf Go.Maps

def treeL (ws : List Int) (s t f : Int) : List Int := comeN (ndOf ws t f) s (s.toNat + 1) (wGet ws (nB t f 0 + 3 + f)) []
theorem tree_beg {s t f : Int} (hs : 1 ≤ s ∧ s ≤ 1000) (ht : 1 ≤ t ∧ t ≤ 64) (hf : 4 ≤ f ∧ f ≤ 64) : treeL (begL s t f) s t f = [1] := by
  unfold treeL
  rw [beg_root hs ht hf]
  unfold comeN
  have h1 : hsl 65537 = 1 := by decide
  have h2 : hrt 65537 s = true := by
    unfold hrt
    rw [h1]
    simp only [Bool.and_eq_true, decide_eq_true_eq]
    omega
  have b := nB_bd hs ht hf (sl := 1) (by omega)
  have h3 : (ndOf (begL s t f) t f (hsl 65537)).1 = false := by
    rw [h1]
    show innB (wGet (begL s t f) (nB t f 1 + 1)) = false
    rw [beg_get (by omega)]
    have h2 := (at_or (t := t) (f := f) (j := nB t f 1 + 1) (k := 1) (c := 1) (by omega) (by omega)).1 (by omega)
    have hp : nB t f 1 + 1 ≠ 2 := by unfold nB; omega
    unfold begAt
    rw [if_neg hp]
    unfold bK bOR
    rw [h2.1, h2.2]
    simp
    rfl
  rw [if_pos ⟨h2, by simp⟩, h3, h1]
  rfl
set_option maxRecDepth 100000 in
set_option maxHeartbeats 2000000 in
theorem atree_any (gm gw : Nat) (s t f lm p : Int) (ws : List Int) (w : World) (hs : 1 ≤ s ∧ s ≤ 1000) (ht : 1 ≤ t ∧ t ≤ 64) (hf : 4 ≤ f ∧ f ≤ 64) (M : MemOk w gm gw s t f lm p ws) (h64 : AllW64 ws) :
    Calls Tryz.prog 56 #[.pointer (some ⟨gm, 0, none⟩)] w fun e w' => (∃ A c, e = .returned (.slice A (treeL ws s t f).length c) ∧ w'.ownsRow w.heap.size 3 1 (.slice A (treeL ws s t f).length c) (treeL ws s t f).length (ints .i64 (treeL ws s t f))) ∧ Below w.heap.size w w' := by
  have hmm := @run_makeMap Tryz.prog
  have RT := hide (aroot_any gm gw s t f lm p ws w hs ht hf M)
  have BL := hide (fun p h m w2 => (callsIn_wide (n := 5)).1 (below_in 5 p h m w2))
  have YL := hide (fun w2 bh bmm bs bm (M : MemOk w2 gm gw s t f lm p ws) MI xh xm xs => below1_yields gm gw s t f lm p ws hs ht hf h64 (s.toNat + 1) (wGet ws (nB t f 0 + 3 + f)) [] w2 bh bmm bs bm (wGet_w64 h64 _) (nice_nil s) (by simp) M MI xh xm xs)
  have HTL := hide (show comeN (ndOf ws t f) s (s.toNat + 1) (wGet ws (nB t f 0 + 3 + f)) [] = treeL ws s t f from rfl)
  rw [HTL.out] at YL
  generalize treeL ws s t f = L at *
  generalize wGet ws (nB t f 0 + 3 + f) = rt at *
  have hsN : s.toNat ≤ 100000 := by omega
  have HSN := hide hsN
  have HM := hide M
  clear hs ht hf h64 M hsN
  go_enter Tryz.func56, Tryz.ntmps56
  go_wp2_with fail
  refine (RT.out).mono ?_
  rintro e w1 ⟨rfl, hb1⟩
  go_wp2_with fail
  refine (BL.out _ _ _ _).mono ?_
  rintro e w2 ⟨rfl, rfl⟩
  have B1 := (((hb1.alloc (hb1.size) (.map #[] 0)).alloc (by rw [World.size_alloc]; have := hb1.size; omega) (.cells #[.pointer (some ⟨gm, 0, none⟩)] 27)).alloc (by simp only [World.size_alloc]; have := hb1.size; omega) (.cells #[.int .u64 rt] 32)).alloc (by simp only [World.size_alloc]; have := hb1.size; omega) (.cells #[.map (some w1.heap.size)] 131)
  have b1 := ((Blk.new (w1.alloc (.map #[] 0)) 27 #[.pointer (some ⟨gm, 0, none⟩)]).alloc (.cells #[.int .u64 rt] 32)).alloc (.cells #[.map (some w1.heap.size)] 131)
  have b2 := (Blk.new ((w1.alloc (.map #[] 0)).alloc (.cells #[.pointer (some ⟨gm, 0, none⟩)] 27)) 32 #[.int .u64 rt]).alloc (.cells #[.map (some w1.heap.size)] 131)
  have b3 := Blk.new (((w1.alloc (.map #[] 0)).alloc (.cells #[.pointer (some ⟨gm, 0, none⟩)] 27)).alloc (.cells #[.int .u64 rt] 32)) 131 #[.map (some w1.heap.size)]
  have MI := (((MapInt.made w1).alloc (.cells #[.pointer (some ⟨gm, 0, none⟩)] 27)).alloc (.cells #[.int .u64 rt] 32)).alloc (.cells #[.map (some w1.heap.size)] 131)
  rw [show (fun _ : Int => false) = (fun j : Int => decide (j ∈ ([] : List Int))) by funext j; simp] at MI
  simp only [World.size_alloc] at b1 b2 b3
  go_wp2_with fail
  have hz : (((((w1.alloc (.map #[] 0)).alloc (.cells #[.pointer (some ⟨gm, 0, none⟩)] 27)).alloc (.cells #[.int .u64 rt] 32)).alloc (.cells #[.map (some w1.heap.size)] 131))).heap.size = w1.heap.size + 4 := by simp only [World.size_alloc]
  generalize ((((w1.alloc (.map #[] 0)).alloc (.cells #[.pointer (some ⟨gm, 0, none⟩)] 27)).alloc (.cells #[.int .u64 rt] 32)).alloc (.cells #[.map (some w1.heap.size)] 131)) = w2 at *
  have hb1s := hb1.size
  have Y := YL.out w2 _ _ _ _ (HM.out.below B1) MI b2 b1 b3
  have C := hide (collect_any _ _ _ _ _ _ w2 HSN.out (by omega) Y (fun A k o hk hf => hf.putObj o (by omega)) (enters_of Tryz.func114 (by kernel_rfl) rfl))
  clear Y MI b1 b2 b3 hb1 YL
  refine (C.out).mono ?_
  rintro e w3 ⟨⟨A, c, rfl, ho⟩, hx, _⟩
  have HX := hide (hx.below B1 B1.size hb1s)
  have HO := hide (own_mono ho (show w.heap.size ≤ w2.heap.size from B1.size))
  clear ho hx hz hb1s B1 C
  go_wp2_with fail
  go_ret
  exact ⟨⟨A, c, rfl, HO.out⟩, HX.out⟩
theorem rg2_two : rg2 2 = [2, 3] := rfl
end Go.Proofs.YtlnckjemfabckaaGreatDoor

/-
  gleaningref10.come: the slots that come of a handle, by the reference.
-/
namespace Go.Proofs.YtlnckjemfabckaaGreatDoor
open Go.RowKit

/-- What turns one row, and makes memory. -/
structure RowStep (w w' : World) (v v' : Value) : Prop where
  g : w.grownBy w' v.ownBlock
  at_ : v'.ownBlock = v.ownBlock ∨ ∀ k, v'.ownBlock = some k → w.heap.size ≤ k
theorem RowStep.of_below {w w' : World} {v : Value} (h : Below w.heap.size w w') : RowStep w w' v v := ⟨grown_below h _, .inl rfl⟩
theorem RowStep.trans {a b c : World} {u v x : Value} (h : RowStep a b u v) (k : RowStep b c v x) : RowStep a c u x := by
  refine ⟨⟨k.g.os.trans h.g.os, k.g.tape.trans h.g.tape, k.g.output.trans h.g.output, Nat.le_trans h.g.size k.g.size, fun i hi hn => ?_⟩, ?_⟩
  · refine (k.g.block i (Nat.lt_of_lt_of_le hi h.g.size) (fun e => ?_)).trans (h.g.block i hi hn)
    rcases h.at_ with h1 | h1
    · exact hn (e.trans h1)
    · have := h1 i e.symm
      omega
  · rcases k.at_ with k1 | k1
    · rw [k1]; exact h.at_
    · exact .inr fun j hj => Nat.le_trans h.g.size (k1 j hj)
theorem RowStep.blk {w w' : World} {v v' : Value} {base n s g : Nat} {e T : TypeId} {xs : List Value} {cs : Array Value} (h : RowStep w w' v v') (ho : w.ownsRow base e s v n xs) (hb : Blk w g T cs) (hne : e ≠ T) : Blk w' g T cs :=
  hb.grown h.g (own_blk_ne ho hb hne).symm
theorem own_own_ne {w : World} {B B' n m s s' : Nat} {e e' : TypeId} {v u : Value} {xs ys : List Value} (h : w.ownsRow B e s v n xs) (k : w.ownsRow B' e' s' u m ys) (hne : e ≠ e') : u.ownBlock = none ∨ u.ownBlock ≠ v.ownBlock := by
  rcases k.2 with ⟨k1, _⟩ | ⟨g, cap, cur, k1, _, k2, _⟩
  · exact .inl (by rw [k1]; rfl)
  · refine .inr fun e9 => ?_
    rcases h.2 with ⟨h1, _⟩ | ⟨g', cap', cur', h1, _, h2, _⟩
    · rw [h1, k1] at e9
      simp [Value.ownBlock] at e9
    · rw [h1, k1] at e9
      have e9 : g = g' := by simpa [Value.ownBlock] using e9
      subst e9
      rw [h2] at k2
      injection k2 with k2
      injection k2 with _ k3 _
      exact hne k3
theorem RowStep.own {w w' : World} {v v' u : Value} {B B' n m s s' : Nat} {e e' : TypeId} {xs ys : List Value} (h : RowStep w w' v v') (ho : w.ownsRow B e s v n xs) (k : w.ownsRow B' e' s' u m ys) (hne : e ≠ e') : w'.ownsRow B' e' s' u m ys :=
  k.kept h.g (own_own_ne ho k hne)
theorem RowStep.below0 {w w' : World} {v' : Value} {n c : Nat} (h : RowStep w w' (.slice none n c) v') : Below w.heap.size w w' := ⟨h.g.os, h.g.tape, h.g.output, h.g.size, fun k hk => h.g.block k hk (fun e => by simp [Value.ownBlock] at e)⟩
structure CoW (g : Nat) (base gc gn : Nat) (s t f lm p : Int) (ws : List Int) (cn : Array Value) (Av : Option Addr) (cv : Nat) (vs : List Int) (w : World) (v0 : Value) (L : List Int) (A : Option Addr) (c : Nat) (wr : World) : Prop where
  bc : Blk wr gc 23 #[.int .i64 s, .int .i64 t, .int .i64 f, .int .i64 lm, .int .i64 p]
  bn : Blk wr gn 82 cn
  ov : wr.ownsRow base 32 1 (.slice Av vs.length cv) vs.length (ints .u64 vs)
  rb : RefOk wr g ws
  ol : wr.ownsRow base 3 1 (.slice A L.length c) L.length (ints .i64 L)
  st : RowStep w wr v0 (.slice A L.length c)
def CoZ (o0 : Value) (w1 : World) (o iv : Value) (wr : World) : Prop := o = o0 ∧ iv = .int .i64 0 ∧ w1 = wr
def CoI (g base gc gn : Nat) (s t f lm p : Int) (ws : List Int) (cn : Array Value) (Av : Option Addr) (cv : Nat) (vs : List Int) (w : World) (v0 : Value) (C : Nat → List Int) (o iv : Value) (wr : World) : Prop :=
  ∃ (k : Nat) (q : Int) (A : Option Addr) (c : Nat), iv = .int .i64 q ∧ q = (k : Int) ∧ k ≤ vs.length ∧ o = .slice A (C k).length c ∧ CoW g base gc gn s t f lm p ws cn Av cv vs w v0 (C k) A c wr
set_option maxRecDepth 100000 in
set_option maxHeartbeats 4000000 in
theorem rcome_any (g : Nat) (s t f lm p : Int) (N0 c0 : Nat) (ws : List Int) (hs : 1 ≤ s ∧ s ≤ 1000) (ht : 1 ≤ t ∧ t ≤ 64) (hf : 4 ≤ f ∧ f ≤ 64) (hN0 : laySize s t f = N0) (hl : ws.length = N0) (h64 : AllW64 ws) : ∀ (fuel : Nat) (h : Int) (l : List Int) (A : Option Addr) (c base : Nat) (w : World), W64 h → Nice s l → s.toNat + 1 ≤ l.length + fuel → RefOk w g ws → w.ownsRow base 3 1 (.slice A l.length c) l.length (ints .i64 l) → base ≤ w.heap.size →
    Calls Tryz.prog 102 #[.agg #[.int .i64 s, .int .i64 t, .int .i64 f, .int .i64 lm, .int .i64 p], .slice (some ⟨g, 0, none⟩) N0 c0, .int .u64 h, .slice A l.length c] w fun e w' => ∃ A' c', e = .returned (.slice A' (comeN (ndOf ws t f) s fuel h l).length c') ∧ w'.ownsRow base 3 1 (.slice A' (comeN (ndOf ws t f) s fuel h l).length c') (comeN (ndOf ws t f) s fuel h l).length (ints .i64 (comeN (ndOf ws t f) s fuel h l)) ∧ RowStep w w' (.slice A l.length c) (.slice A' (comeN (ndOf ws t f) s fuel h l).length c') := by
  obtain ⟨i0, hi0, hz0, hs0, hb0⟩ := info_parts infoI10
  intro fuel
  induction fuel with
  | zero =>
    intro h l A c base w _ hN hfu
    have := nice_le hN (by omega)
    omega
  | succ fuel ih =>
    intro h l A c base w hh hN hfu R ho hbase
    have C1 := hide (fun w2 => rhs_any h w2 hh)
    have C2 := hide (fun w2 => rhr_any h s w2 hh)
    have HA := hide (fun w2 (hr : Reads w2 w2.heap.size 1 A l.length (ints .i64 l)) => rhas10_any A l.length c l (hsl h) w2 (by have := nice_le hN (by omega); omega) hr)
    have HCE := hide (show comeN (ndOf ws t f) s (fuel + 1) h l = if hrt h s = true ∧ hsl h ∉ l then (if ((ndOf ws t f) (hsl h)).1 = true then ((ndOf ws t f) (hsl h)).2.foldl (fun l c => comeN (ndOf ws t f) s fuel c l) (l ++ [hsl h]) else l ++ [hsl h]) else l from rfl)
    have HSL := hide (fun hr => hrt_slot (h := h) (s := s) hr)
    have ND := hide (fun (sl : Int) (hsl_ : 1 ≤ sl ∧ sl ≤ s) w2 (R2 : RefOk w2 g ws) => rnode_yes g s t f lm p sl N0 c0 ws w2 hs ht hf (by omega) hN0 hl R2 h64)
    have HV64 := hide (fun sl => (show ∀ x ∈ nodV ws t f sl, W64 x from rowL_w64 h64 _ _))
    have HVL := hide (fun sl => (by have h1 := nodN_le (t := t) (k := sl) h64 hf; have h3 := rowL_len ws (fun i => nB t f sl + 3 + f + i) (nodN ws t f sl); unfold nodV; omega : (nodV ws t f sl).length ≤ 64))
    generalize comeN (ndOf ws t f) s (fuel + 1) h l = lout at *
    generalize hsl h = sl at *
    have HNI := hide hN
    have hll := nice_le hN (by omega)
    have hl2 : l.length ≤ 1000 := by omega
    have HS := hide hs
    have HFU := hide hfu
    have IH := hide ih
    have hlm : l.length ≤ 4294967296 := by omega
    have hgw := hide (Blk.lt R)
    clear hs ht hf hN0 hl h64 hN hfu ih hll hh
    have B0 := (Below.refl w.heap.size w).alloc (Nat.le_refl _) (.cells #[.int .i64 s, .int .i64 t, .int .i64 f, .int .i64 lm, .int .i64 p] 23)
    have bc := Blk.new w 23 #[.int .i64 s, .int .i64 t, .int .i64 f, .int .i64 lm, .int .i64 p]
    have ho0 := ho.alloc (.cells #[.int .i64 s, .int .i64 t, .int .i64 f, .int .i64 lm, .int .i64 p] 23)
    replace R := R.below B0
    have hsz0 : base ≤ (w.alloc (.cells #[.int .i64 s, .int .i64 t, .int .i64 f, .int .i64 lm, .int .i64 p] 23)).heap.size := by rw [World.size_alloc]; omega
    have mc := fun j => bc.cell j
    by_cases hr : ¬ hrt h s = true
    · have hrb : hrt h s = false := by simpa using hr
      have HE := hide (HCE.out.trans (if_neg (fun c => hr c.1)))
      rw [hrb] at C2
      clear hr hrb HCE
      go_enter Tryz.func102, Tryz.ntmps102
      go_wp2_with fail
      refine (C1.out _).mono ?_
      rintro e w1 ⟨rfl, rfl⟩
      go_wp2_with fail
      refine (C2.out _).mono ?_
      rintro e w1 ⟨rfl, rfl⟩
      go_wp2_with fail
      go_ret
      exact ⟨A, c, by rw [HE.out]; rfl, by rw [HE.out]; exact ho0, by rw [HE.out]; exact RowStep.of_below B0⟩
    replace hr : hrt h s = true := by simpa using hr
    rw [hr] at C2
    by_cases hin : sl ∈ l
    · have HE := hide (HCE.out.trans (if_neg (fun c => c.2 hin)))
      have hd : decide (sl ∈ l) = true := by rw [decide_eq_true_iff]; exact hin
      rw [hd] at HA
      clear HCE hin hd
      go_enter Tryz.func102, Tryz.ntmps102
      go_wp2_with fail
      refine (C1.out _).mono ?_
      rintro e w1 ⟨rfl, rfl⟩
      go_wp2_with fail
      refine (C2.out _).mono ?_
      rintro e w1 ⟨rfl, rfl⟩
      go_wp2_with fail
      refine (HA.out _ (Reads.of_own ho0)).mono ?_
      rintro e w1 ⟨rfl, hb1⟩
      go_wp2_with fail
      go_ret
      exact ⟨A, c, by rw [HE.out]; rfl, by rw [HE.out]; exact own_below ho0 hb1, by rw [HE.out]; exact RowStep.of_below (B0.trans (hb1.mono B0.size))⟩
    have HE := hide (HCE.out.trans (if_pos ⟨hr, hin⟩))
    have hd : decide (sl ∈ l) = false := by rw [decide_eq_false_iff_not]; exact hin
    rw [hd] at HA
    have HR := hide (HSL.out hr)
    have HN2 := hide (nice_snoc HNI.out HR.out hin)
    clear HCE hin hr HSL hd
    have NDs := hide (ND.out sl HR.out)
    replace HV64 := hide (HV64.out sl)
    replace HVL := hide (HVL.out sl)
    rw [show ((ndOf ws t f) sl).1 = nodI ws t f sl from rfl, show ((ndOf ws t f) sl).2 = nodV ws t f sl from rfl] at HE
    clear ND
    generalize nodK ws t f sl = ks at *
    generalize nodV ws t f sl = vs at *
    generalize nodL ws t f sl = lk at *
    generalize nodI ws t f sl = inn at *
    go_enter Tryz.func102, Tryz.ntmps102
    go_wp2_with fail
    refine (C1.out _).mono ?_
    rintro e w1 ⟨rfl, rfl⟩
    go_wp2_with fail
    refine (C2.out _).mono ?_
    rintro e w1 ⟨rfl, rfl⟩
    go_wp2_with fail
    generalize w.alloc (.cells #[.int .i64 s, .int .i64 t, .int .i64 f, .int .i64 lm, .int .i64 p] 23) = w0 at *
    refine (HA.out _ (Reads.of_own ho0)).mono ?_
    rintro e w2 ⟨rfl, hb1⟩
    have ho2 := own_below ho0 hb1
    replace bc := bc.below hb1 bc.lt
    replace R := R.below hb1
    have S2 := RowStep.of_below (v := .slice A l.length c) (B0.trans (hb1.mono B0.size))
    have hsz2 := Nat.le_trans hsz0 hb1.size
    clear hb1 ho0 hsz0 mc B0 ho
    go_wp2_with (at_builtin
                 refine wpList_append_one rfl (.tmp 25) (.tmp 27) _ rfl base 3 i0 _ 1 8 Tryz.underlying79 hi0 hz0 hs0 hb0 rfl (by omega) (by omega) (.slice A l.length c) l.length _ rfl (ho2.alloc (.cells #[.int .i64 sl] 3)) w2.heap.size #[.int .i64 sl] rfl (Blk.new _ _ _) rfl rfl hlm (by rw [World.size_alloc]; omega) ?_
                 intro A3 c3 w3 ho3 hg3 hat3
                 have S3 : RowStep w2 w3 (.slice A l.length c) (.slice A3 (l.length + 1) c3) := ⟨grown_trans (World.grownBy_alloc w2 (.cells #[.int .i64 sl] 3) _) hg3, hat3.imp id (fun h k hk => by rw [h] at hk; injection hk with hk; rw [World.size_alloc] at hk; omega)⟩
                 have bc3 := S3.blk ho2 bc (by decide)
                 have R3 : RefOk w3 g ws := S3.blk ho2 R (by decide)
                 have mc3 := fun j => bc3.cell j
                 have hsz3 := Nat.le_trans hsz2 S3.g.size
                 have S4 := S2.trans S3
                 clear hg3 hat3 S3 S2)
    refine (NDs.out _ R3).mono ?_
    rintro e w5 ⟨⟨v, rfl, ⟨kk, uu, rfl, o1, o2⟩⟩, hb1⟩
    obtain ⟨Ak, ck, rfl⟩ := o1.val
    obtain ⟨Av, cv, rfl⟩ := o2.val
    clear o1
    have bg := Blk.new w5 82 #[.bool false, .slice none 0 0, .slice none 0 0, .int .u64 0]
    have zg := fun i => bg.frozen i
    have mg := fun i => bg.cell i
    have B5 := hb1.trans ((Below.refl w5.heap.size w5).alloc (Nat.le_refl _) (.cells #[.bool inn, .slice Ak ks.length ck, .slice Av vs.length cv, .int .u64 lk] 82) |>.mono hb1.size)
    have bn := Blk.new w5 82 #[.bool inn, .slice Ak ks.length ck, .slice Av vs.length cv, .int .u64 lk]
    have ho5 := own_below ho3 B5
    have bc5 := bc3.below B5 bc3.lt
    have R5 := R3.below B5
    have S5 := S4.trans (RowStep.of_below (v := .slice A3 (l.length + 1) c3) B5)
    have ov5 := own_mono (B' := base) (o2.alloc (.cells #[.bool inn, .slice Ak ks.length ck, .slice Av vs.length cv, .int .u64 lk] 82)) hsz3
    have HSZ := hide (Nat.le_trans hsz3 B5.size)
    clear hb1 ho3 bc3 R3 S4 B5 hsz3 hsz2 ho2 bc R o2 mc3
    cases inn with
    | false =>
      replace HE := hide (HE.out.trans (if_neg (by decide)))
      have hlen : l.length + 1 = (l ++ [sl]).length := by simp
      have hints : ints .i64 l ++ [.int .i64 sl] = ints .i64 (l ++ [sl]) := by rw [ints_append]; rfl
      have F9 := hide (And.intro ho5 S5)
      have HLN := hide hlen
      have HIT := hide hints
      clear ho5 S5 ov5 R5 bc5 hlen hints
      go_wp2_with fail
      generalize w5.alloc (.cells #[.bool false, .slice Ak ks.length ck, .slice Av vs.length cv, .int .u64 lk] 82) = w6 at *
      generalize w5.heap.size = gn at *
      clear zg mg bg
      go_loopw [3, 11] (CoZ (.slice A3 (l.length + 1) c3) w6) (fun _ _ _ => 0)
      case atStart => exact ⟨rfl, rfl, rfl⟩
      case round =>
        obtain ⟨rfl, rfl, rfl⟩ := hrel
        have mn := fun j => bn.cell j
        by_cases hv : 0 < vs.length
        · have hv2 : (0 : Int) < (vs.length : Int) := by omega
          go_wp2_with fail
          go_ret
          exact ⟨A3, c3, by rw [HE.out, ← HLN.out]; rfl, by rw [HE.out, ← HLN.out, ← HIT.out]; exact F9.out.1, by rw [HE.out, ← HLN.out]; exact F9.out.2⟩
        · have hv2 : ¬ (0 : Int) < (vs.length : Int) := by omega
          go_wp2_with fail
          go_ret
          exact ⟨A3, c3, by rw [HE.out, ← HLN.out]; rfl, by rw [HE.out, ← HLN.out, ← HIT.out]; exact F9.out.1, by rw [HE.out, ← HLN.out]; exact F9.out.2⟩
    | true =>
      replace HE := hide (HE.out.trans (if_pos rfl))
      have hlen : l.length + 1 = (l ++ [sl]).length := by simp
      have hints : ints .i64 l ++ [.int .i64 sl] = ints .i64 (l ++ [sl]) := by rw [ints_append]; rfl
      rw [hints, hlen] at ho5
      rw [hlen] at S5
      have F9 := hide (And.intro ho5 (And.intro S5 (And.intro ov5 (And.intro R5 bc5))))
      have HL := hide hlen
      clear ho5 S5 ov5 R5 bc5 hints hlen
      go_wp2_with fail
      generalize w5.alloc (.cells #[.bool true, .slice Ak ks.length ck, .slice Av vs.length cv, .int .u64 lk] 82) = w6 at *
      generalize w5.heap.size = gn at *
      clear zg mg bg
      generalize hgc : w.heap.size = gc at *
      replace hgc := hide hgc
      generalize hn1 : l.length + 1 = n1
      replace hn1 := hide hn1
      go_loopw [3, 11] (CoI g base gc gn s t f lm p ws #[.bool true, .slice Ak ks.length ck, .slice Av vs.length cv, .int .u64 lk] Av cv vs w (.slice A l.length c) (comesK (ndOf ws t f) s fuel vs (l ++ [sl]))) (fun _ i _ => vs.length - (intOf i).toNat)
      case atStart => exact ⟨0, 0, A3, c3, rfl, rfl, Nat.zero_le _, by rw [← hn1.out, HL.out]; rfl, ⟨F9.out.2.2.2.2, bn, F9.out.2.2.1, F9.out.2.2.2.1, F9.out.1, F9.out.2.1⟩⟩
      case round =>
        clear bn F9
        obtain ⟨k, q, Aq, cq, rfl, hq, hk, rfl, ⟨bc, bn, ov, rb, ol, st⟩⟩ := hrel
        have HQ := hide hq
        have hq0 : 0 ≤ q := by omega
        have hq64 : q ≤ 64 := by have := HVL.out; omega
        have mn := fun j => bn.cell j
        by_cases hlt : k < vs.length
        · have hlt2 : q < (vs.length : Int) := by omega
          have HLT := hide hlt
          obtain ⟨av, rfl, hkl, z1⟩ := (Reads.of_own ov).word hlt
          have hc64 := hide (HV64.out _ (List.getElem_mem hkl))
          have hn1 := comesK_nice (nd := ndOf ws t f) (s := s) (n := fuel) (vs := vs) HN2.out k hk
          have hfu2 : s.toNat + 1 ≤ (comesK (ndOf ws t f) s fuel vs (l ++ [sl]) k).length + fuel := by
            have h1 := hn1.2
            rw [List.length_append] at h1
            simp only [List.length_singleton] at h1
            have h2 := HFU.out
            omega
          have XC := hide (fun (w2 : World) (R2 : RefOk w2 g ws) (o2 : w2.ownsRow base 3 1 (.slice Aq (comesK (ndOf ws t f) s fuel vs (l ++ [sl]) k).length cq) (comesK (ndOf ws t f) s fuel vs (l ++ [sl]) k).length (ints .i64 (comesK (ndOf ws t f) s fuel vs (l ++ [sl]) k))) (hb2 : base ≤ w2.heap.size) => IH.out vs[k] _ Aq cq base w2 hc64.out hn1.1 hfu2 R2 o2 hb2)
          have HSZr := hide (show base ≤ wr.heap.size from Nat.le_trans (by have := hgc.out; omega) st.g.size)
          have HK := hide (comesK_succ (ndOf ws t f) s fuel vs (l ++ [sl]) k hlt)
          have ZZ := hide (fun (w2 : World) (o2 : w2.ownsRow base 32 1 (.slice (some av) vs.length cv) vs.length (ints .u64 vs)) => (by
            obtain ⟨a9, e9, h9, z9⟩ := (Reads.of_own o2).word hlt
            injection e9 with e9
            subst e9
            rw [show q.toNat = k by omega]
            exact z9 : w2.cell? (av.add q.toNat) = some (.int .u64 vs[k])))
          generalize vs[k] = ck_ at *
          generalize comesK (ndOf ws t f) s fuel vs (l ++ [sl]) k = l1 at *
          clear hq hk hlt z1 hn1 hfu2
          go_wp2_with fail
          clear mn
          refine wp_region_heldZ [] (fun w' => w'.cell? ⟨gc, 0, none⟩ = some (.int .i64 s) ∧ w'.cell? ⟨gc, 1, none⟩ = some (.int .i64 t) ∧ w'.cell? ⟨gc, 2, none⟩ = some (.int .i64 f) ∧ w'.cell? ⟨gc, 3, none⟩ = some (.int .i64 lm) ∧ w'.cell? ⟨gc, 4, none⟩ = some (.int .i64 p) ∧ w'.cell? ⟨gn, 2, none⟩ = some (.slice (some av) vs.length cv) ∧ w'.cell? (av.add q.toNat) = some (.int .u64 ck_)) (by kernel_rfl) (by exact ⟨bc.cell 0, bc.cell 1, bc.cell 2, bc.cell 3, bc.cell 4, bn.cell 2, ZZ.out _ ov⟩) (fun hHeld => ?_)
          replace bc := bc.drew
          replace bn := bn.drew
          replace rb := (show RefOk _ g ws from Blk.drew rb)
          replace ov := (show wr.drew.ownsRow _ _ _ _ _ _ from ov)
          replace ol := (show wr.drew.ownsRow _ _ _ _ _ _ from ol)
          replace st := (show RowStep w wr.drew _ _ from ⟨⟨st.g.os, st.g.tape.trans rfl, st.g.output, st.g.size, st.g.block⟩, st.at_⟩)
          replace HSZr := hide (show base ≤ wr.drew.heap.size from HSZr.out)
          generalize wr.drew = wd at *
          refine' wpAnyZ_takeA (i := 0) (v := ?_) (opAt rfl) (by kernel_rfl) (by kernel_rfl) (by kernel_rfl) (by kernel_rfl) (fun _ _ _ h => h) (by assumption) (by rfl) (fun w hSw => ?_) ?_
          rotate_left
          · (try dsimp only at hSw); go_simp; (try with_reducible rfl)
          try simp only [Act.put, List.setIfInBounds_toArray, List.set_cons_zero, List.set_cons_succ]
          refine' wpAnyZ_takeA (i := 1) (v := ?_) (opAt rfl) (by kernel_rfl) (by kernel_rfl) (by kernel_rfl) (by kernel_rfl) (fun _ _ _ h => h) (by assumption) (by rfl) (fun w hSw => ?_) ?_
          rotate_left
          · (try dsimp only at hSw); go_simp; (try with_reducible rfl)
          try simp only [Act.put, List.setIfInBounds_toArray, List.set_cons_zero, List.set_cons_succ]
          refine' wpAnyZ_takeA (i := 2) (v := ?_) (opAt rfl) (by kernel_rfl) (by kernel_rfl) (by kernel_rfl) (by kernel_rfl) (fun _ _ _ h => h) (by assumption) (by rfl) (fun w hSw => ?_) ?_
          rotate_left
          · (try dsimp only at hSw); go_simp; (try with_reducible rfl)
          try simp only [Act.put, List.setIfInBounds_toArray, List.set_cons_zero, List.set_cons_succ]
          refine' wpAnyZ_takeA (i := 3) (v := ?_) (opAt rfl) (by kernel_rfl) (by kernel_rfl) (by kernel_rfl) (by kernel_rfl) (fun _ _ _ h => h) (by assumption) (by rfl) (fun w hSw => ?_) ?_
          rotate_left
          · (try dsimp only at hSw); go_simp; (try with_reducible rfl)
          try simp only [Act.put, List.setIfInBounds_toArray, List.set_cons_zero, List.set_cons_succ]
          refine' wpAnyZ_takeA (i := 4) (v := ?_) (opAt rfl) (by kernel_rfl) (by kernel_rfl) (by kernel_rfl) (by kernel_rfl) (fun _ _ _ h => h) (by assumption) (by rfl) (fun w hSw => ?_) ?_
          rotate_left
          · (try dsimp only at hSw); go_simp; (try with_reducible rfl)
          try simp only [Act.put, List.setIfInBounds_toArray, List.set_cons_zero, List.set_cons_succ]
          refine' wpAnyZ_takeA (i := 5) (v := ?_) (opAt rfl) (by kernel_rfl) (by kernel_rfl) (by kernel_rfl) (by kernel_rfl) (fun _ _ _ h => h) (by assumption) (by rfl) (fun w hSw => ?_) ?_
          rotate_left
          · (try dsimp only at hSw); go_simp; (try with_reducible rfl)
          try simp only [Act.put, List.setIfInBounds_toArray, List.set_cons_zero, List.set_cons_succ]
          refine' wpAnyZ_takeA (i := 6) (v := ?_) (opAt rfl) (by kernel_rfl) (by kernel_rfl) (by kernel_rfl) (by kernel_rfl) (fun _ _ _ h => h) (by assumption) (by rfl) (fun w hSw => ?_) ?_
          rotate_left
          · (try dsimp only at hSw); go_simp; (try with_reducible rfl)
          try simp only [Act.put, List.setIfInBounds_toArray, List.set_cons_zero, List.set_cons_succ]
          refine' wpAnyZ_takeA (i := 7) (v := ?_) (opAt rfl) (by kernel_rfl) (by kernel_rfl) (by kernel_rfl) (by kernel_rfl) (fun _ _ _ h => h) (by assumption) (by rfl) (fun w hSw => ?_) ?_
          rotate_left
          · (try dsimp only at hSw); go_simp; (try with_reducible rfl)
          try simp only [Act.put, List.setIfInBounds_toArray, List.set_cons_zero, List.set_cons_succ]
          refine wpAnyZ_ready (rs := [8]) (by kernel_rfl) (by simp) ?_
          refine AllReadyZ.cons (opAt rfl) (fun K hK => ?_) ?_
          · skip
            go_simp
            refine (XC.out _ rb ol HSZr.out).mono ?_
            rintro e w8 ⟨A8, c8, rfl, ol8, st8⟩
            replace bc := st8.blk ol bc (by decide)
            replace bn := st8.blk ol bn (by decide)
            replace rb := (show RefOk _ g ws from st8.blk ol rb (by decide))
            replace ov := st8.own ol ov (by decide)
            have st9 := st.trans st8
            clear ol st st8
            try go_wp2_with fail
            refine hK.out _ _ (by exact ⟨bc.cell 0, bc.cell 1, bc.cell 2, bc.cell 3, bc.cell 4, bn.cell 2, ZZ.out _ ov⟩) (fun hHeld => ?_)
            clear hK K
            try simp only [Act.put, List.setIfInBounds_toArray, List.set_cons_zero, List.set_cons_succ]
            refine' wpAnyZ_takeA (i := 9) (v := ?_) (opAt rfl) (by kernel_rfl) (by kernel_rfl) (by kernel_rfl) (by kernel_rfl) (fun _ _ _ h => h) (by assumption) (by rfl) (fun w hSw => ?_) ?_
            rotate_left
            · (try dsimp only at hSw); go_simp; (try with_reducible rfl)
            try simp only [Act.put, List.setIfInBounds_toArray, List.set_cons_zero, List.set_cons_succ]
            refine wpAnyZ_done (by kernel_rfl) ?_ _
            go_wp2_with fail
            go_roundw
            case measure => simp [intOf]; have := HLT.out; have := HQ.out; omega
            case rel => exact ⟨k + 1, q + 1, A8, c8, rfl, by have := HQ.out; omega, HLT.out, by rw [HK.out], by rw [HK.out]; exact ⟨bc, bn, ov, rb, ol8, st9⟩⟩
          exact AllReadyZ.nil
        · have hlt2 : ¬ q < (vs.length : Int) := by omega
          have hkv : k = vs.length := by omega
          have HF := hide (show comesK (ndOf ws t f) s fuel vs (l ++ [sl]) k = lout from by rw [hkv]; exact (comesK_all _ _ _ _ _).trans HE.out.symm)
          rw [HF.out] at ol st
          rw [HF.out]
          have OL := hide (And.intro ol st)
          clear hq hkv hlt ol st
          go_wp2_with fail
          go_ret
          exact ⟨Aq, cq, rfl, OL.out.1, OL.out.2⟩
theorem rtree_any (g : Nat) (s t f lm p : Int) (N0 c0 : Nat) (ws : List Int) (w : World) (hs : 1 ≤ s ∧ s ≤ 1000) (ht : 1 ≤ t ∧ t ≤ 64) (hf : 4 ≤ f ∧ f ≤ 64) (hN0 : laySize s t f = N0) (hl : ws.length = N0) (R : RefOk w g ws) (h64 : AllW64 ws) :
    Calls Tryz.prog 58 #[.agg #[.int .i64 s, .int .i64 t, .int .i64 f, .int .i64 lm, .int .i64 p], .slice (some ⟨g, 0, none⟩) N0 c0] w fun e w' => (∃ A c, e = .returned (.slice A (treeL ws s t f).length c) ∧ w'.ownsRow w.heap.size 3 1 (.slice A (treeL ws s t f).length c) (treeL ws s t f).length (ints .i64 (treeL ws s t f))) ∧ Below w.heap.size w w' := by
  have hbd := nB_bd hs ht hf (sl := 0) (by omega)
  have hsp := size_pos hs ht hf
  obtain ⟨q, hq⟩ : ∃ q : Nat, nB t f 0 + 3 + f + 0 = q := Int.eq_ofNat_of_zero_le (by omega)
  have CV := hide (fun w2 => rval_any s t f lm p 0 0 w2 hs ht hf (by omega) (by omega))
  rw [hq] at CV
  have hqN : q < ws.length := by omega
  have RC := hide (fun w2 (R2 : RefOk w2 g ws) => rcome_any g s t f lm p N0 c0 ws hs ht hf hN0 hl h64 (s.toNat + 1) (wGet ws (nB t f 0 + 3 + f)) [] none 0 w2.heap.size w2 (wGet_w64 h64 _) (nice_nil s) (by simp) R2 (World.ownsRow_nil _ _ _ _) (Nat.le_refl _))
  have AT := hide (fun (w2 : World) (R2 : RefOk w2 g ws) => (by have h := R2.at_ hqN; rw [show ws.getD q 0 = wGet ws (nB t f 0 + 3 + f) by rw [← wGet_at hqN]; congr 1; omega] at h; exact h : w2.cell? ⟨g, q, none⟩ = some (.int .u64 (wGet ws (nB t f 0 + 3 + f)))))
  have HTL := hide (show comeN (ndOf ws t f) s (s.toNat + 1) (wGet ws (nB t f 0 + 3 + f)) [] = treeL ws s t f from rfl)
  rw [HTL.out] at RC
  generalize treeL ws s t f = L at *
  generalize wGet ws (nB t f 0 + 3 + f) = rt at *
  have hN1 : ((N0 : Int) == 0) = false := by simp; omega
  have hqN0 : q < N0 := by omega
  clear hs ht hf hN0 hl h64 hbd hsp hq hqN
  have B0 := (Below.refl w.heap.size w).alloc (Nat.le_refl _) (.cells #[.int .i64 s, .int .i64 t, .int .i64 f, .int .i64 lm, .int .i64 p] 23)
  have bc := Blk.new w 23 #[.int .i64 s, .int .i64 t, .int .i64 f, .int .i64 lm, .int .i64 p]
  have mc := fun j => bc.cell j
  replace R := R.below B0
  go_enter Tryz.func58, Tryz.ntmps58
  go_wp2_with fail
  generalize w.alloc (.cells #[.int .i64 s, .int .i64 t, .int .i64 f, .int .i64 lm, .int .i64 p] 23) = w0 at *
  obtain ⟨gc, hgc⟩ : ∃ gc, gc = w.heap.size := ⟨_, rfl⟩
  rw [← hgc] at bc mc ⊢
  have HGC := hide hgc
  clear hgc
  refine wp_region_heldZ [] (fun w' => w'.cell? ⟨gc, 0, none⟩ = some (.int .i64 s) ∧ w'.cell? ⟨gc, 1, none⟩ = some (.int .i64 t) ∧ w'.cell? ⟨gc, 2, none⟩ = some (.int .i64 f) ∧ w'.cell? ⟨gc, 3, none⟩ = some (.int .i64 lm) ∧ w'.cell? ⟨gc, 4, none⟩ = some (.int .i64 p) ∧ w'.cell? ⟨g, q, none⟩ = some (.int .u64 rt)) (by kernel_rfl) (by exact ⟨bc.cell 0, bc.cell 1, bc.cell 2, bc.cell 3, bc.cell 4, AT.out _ R⟩) (fun hHeld => ?_)
  replace bc := bc.drew
  replace R := (show RefOk _ g ws from Blk.drew R)
  replace B0 := B0.drew
  generalize w0.drew = wd at *
  refine' wpAnyZ_takeA (i := 0) (v := ?_) (opAt rfl) (by kernel_rfl) (by kernel_rfl) (by kernel_rfl) (by kernel_rfl) (fun _ _ _ h => h) (by assumption) (by rfl) (fun w hSw => ?_) ?_
  rotate_left
  · (try dsimp only at hSw); go_simp; (try with_reducible rfl)
  try simp only [Act.put, List.setIfInBounds_toArray, List.set_cons_zero, List.set_cons_succ]
  refine' wpAnyZ_takeA (i := 1) (v := ?_) (opAt rfl) (by kernel_rfl) (by kernel_rfl) (by kernel_rfl) (by kernel_rfl) (fun _ _ _ h => h) (by assumption) (by rfl) (fun w hSw => ?_) ?_
  rotate_left
  · (try dsimp only at hSw); go_simp; (try with_reducible rfl)
  try simp only [Act.put, List.setIfInBounds_toArray, List.set_cons_zero, List.set_cons_succ]
  refine' wpAnyZ_takeA (i := 2) (v := ?_) (opAt rfl) (by kernel_rfl) (by kernel_rfl) (by kernel_rfl) (by kernel_rfl) (fun _ _ _ h => h) (by assumption) (by rfl) (fun w hSw => ?_) ?_
  rotate_left
  · (try dsimp only at hSw); go_simp; (try with_reducible rfl)
  try simp only [Act.put, List.setIfInBounds_toArray, List.set_cons_zero, List.set_cons_succ]
  refine' wpAnyZ_takeA (i := 3) (v := ?_) (opAt rfl) (by kernel_rfl) (by kernel_rfl) (by kernel_rfl) (by kernel_rfl) (fun _ _ _ h => h) (by assumption) (by rfl) (fun w hSw => ?_) ?_
  rotate_left
  · (try dsimp only at hSw); go_simp; (try with_reducible rfl)
  try simp only [Act.put, List.setIfInBounds_toArray, List.set_cons_zero, List.set_cons_succ]
  refine wpAnyZ_ready (rs := [4]) (by kernel_rfl) (by simp) ?_
  refine AllReadyZ.cons (opAt rfl) (fun K hK => ?_) ?_
  · skip
    go_simp
    refine (CV.out _).mono ?_
    rintro e w1 ⟨rfl, hb1⟩
    replace bc := bc.below hb1 bc.lt
    replace R := R.below hb1
    replace B0 := B0.trans (hb1.mono B0.size)
    clear hb1
    try go_wp2_with fail
    refine hK.out _ _ (by exact ⟨bc.cell 0, bc.cell 1, bc.cell 2, bc.cell 3, bc.cell 4, AT.out _ R⟩) (fun hHeld => ?_)
    clear hK K
    try simp only [Act.put, List.setIfInBounds_toArray, List.set_cons_zero, List.set_cons_succ]
    refine' wpAnyZ_takeA (i := 5) (v := ?_) (opAt rfl) (by kernel_rfl) (by kernel_rfl) (by kernel_rfl) (by kernel_rfl) (fun _ _ _ h => h) (by assumption) (by rfl) (fun w hSw => ?_) ?_
    rotate_left
    · (try dsimp only at hSw); go_simp; (try with_reducible rfl)
    try simp only [Act.put, List.setIfInBounds_toArray, List.set_cons_zero, List.set_cons_succ]
    refine' wpAnyZ_takeA (i := 6) (v := ?_) (opAt rfl) (by kernel_rfl) (by kernel_rfl) (by kernel_rfl) (by kernel_rfl) (fun _ _ _ h => h) (by assumption) (by rfl) (fun w hSw => ?_) ?_
    rotate_left
    · (try dsimp only at hSw); go_simp; (try with_reducible rfl)
    try simp only [Act.put, List.setIfInBounds_toArray, List.set_cons_zero, List.set_cons_succ]
    refine wpAnyZ_ready (rs := [7]) (by kernel_rfl) (by simp) ?_
    refine AllReadyZ.cons (opAt rfl) (fun K hK => ?_) ?_
    · skip
      go_simp
      refine (RC.out _ R).mono ?_
      rintro e w2 ⟨A, c, rfl, ol, st⟩
      have hb2 := st.below0
      replace bc := bc.below hb2 bc.lt
      replace R := R.below hb2
      have ol2 := own_mono ol B0.size
      replace B0 := B0.trans (hb2.mono B0.size)
      clear hb2 ol st
      try go_wp2_with fail
      refine hK.out _ _ (by exact ⟨bc.cell 0, bc.cell 1, bc.cell 2, bc.cell 3, bc.cell 4, AT.out _ R⟩) (fun hHeld => ?_)
      clear hK K
      try simp only [Act.put, List.setIfInBounds_toArray, List.set_cons_zero, List.set_cons_succ]
      refine' wpAnyZ_takeA (i := 8) (v := ?_) (opAt rfl) (by kernel_rfl) (by kernel_rfl) (by kernel_rfl) (by kernel_rfl) (fun _ _ _ h => h) (by assumption) (by rfl) (fun w hSw => ?_) ?_
      rotate_left
      · (try dsimp only at hSw); go_simp; (try with_reducible rfl)
      try simp only [Act.put, List.setIfInBounds_toArray, List.set_cons_zero, List.set_cons_succ]
      refine wpAnyZ_done (by kernel_rfl) ?_ _
      go_wp2_with fail
      go_ret
      exact ⟨⟨A, c, rfl, by first | exact ol2 | (rw [HGC.out]; exact ol2)⟩, by first | exact B0 | (rw [HGC.out]; exact B0)⟩
    exact AllReadyZ.nil
  exact AllReadyZ.nil
end Go.Proofs.YtlnckjemfabckaaGreatDoor

/-
  The reference's Right, and gleaningref03.Words, gleaningref10.Same.
-/
namespace Go.Proofs.YtlnckjemfabckaaGreatDoor
open Go.RowKit

def eqTo (l m : List Int) (k : Nat) : Prop := ∀ i, i < k → l.getD i 0 = m.getD i 0
theorem eq_of_eqTo {l m : List Int} (hl : l.length = m.length) (h : eqTo l m l.length) : l = m := by
  apply List.ext_getElem hl
  intro i h1 h2
  have := h i h1
  simpa [List.getD, h1, h2] using this
theorem ne_of_getD {l m : List Int} {i : Nat} (h : l.getD i 0 ≠ m.getD i 0) : ¬ l = m := fun e => h (by rw [e])

def WordsIn (l m : List Int) (w : World) (i : Value) (wr : World) : Prop := ∃ k : Nat, i = .int .i64 k ∧ k ≤ l.length ∧ eqTo l m k ∧ Below w.heap.size w wr

def sameB (b : Bool) (ks vs : List Int) (l : Int) (b' : Bool) (ks' vs' : List Int) (l' : Int) : Bool := b == b' && decide (ks = ks') && decide (vs = vs') && l == l'
end Go.Proofs.YtlnckjemfabckaaGreatDoor

/-
  slices.Equal of words, arena.Same.
-/
namespace Go.Proofs.YtlnckjemfabckaaGreatDoor
open Go.RowKit

def EqualIn (l m : List Int) (w : World) (i : Value) (wr : World) : Prop := ∃ k : Nat, i = .int .i64 k ∧ k ≤ l.length ∧ eqTo l m k ∧ Below w.heap.size w wr

end Go.Proofs.YtlnckjemfabckaaGreatDoor

/-
  gleaningref10.Ints; memories that may not be; the first leaf of a machine that begins.
-/
namespace Go.Proofs.YtlnckjemfabckaaGreatDoor
open Go.RowKit

def SlI (w : World) (B : Nat) (v : Value) (xs : List Int) : Prop := ∃ A c, v = .slice A xs.length c ∧ xs.length ≤ c ∧ c ≤ 9223372036854775807 ∧ Reads w B 1 A xs.length (ints .i64 xs)
theorem SlI.below {w w' : World} {B : Nat} {v : Value} {xs : List Int} (h : SlI w B v xs) (hb : Below B w w') : SlI w' B v xs := by
  obtain ⟨A, c, h1, h2, h3, h4⟩ := h
  exact ⟨A, c, h1, h2, h3, h4.below hb⟩
theorem SlI.more {w : World} {B B' : Nat} {v : Value} {xs : List Int} (h : SlI w B v xs) (hB : B ≤ B') : SlI w B' v xs := by
  obtain ⟨A, c, h1, h2, h3, h4⟩ := h
  exact ⟨A, c, h1, h2, h3, h4.1, fun hn => by obtain ⟨a, h5, h6, h7⟩ := h4.2 hn; exact ⟨a, h5, Nat.lt_of_lt_of_le h6 hB, h7⟩⟩
theorem SlI.of_own {w : World} {B : Nat} {e : TypeId} {A : Option Addr} {c : Nat} {xs : List Int} (h : w.ownsRow B e 1 (.slice A xs.length c) xs.length (ints .i64 xs)) : SlI w w.heap.size (.slice A xs.length c) xs := by
  have hr := Reads.of_own h
  rcases h.2 with ⟨h1, h2⟩ | ⟨g, cap, cur, hv, _, _, hc1, hc2, _⟩
  · injection h1 with h3 h4 h5
    exact ⟨A, c, rfl, by omega, by omega, hr⟩
  · injection hv with h3 h4 h5
    unfold maxLen at hc2
    exact ⟨A, c, rfl, by omega, by omega, hr⟩
def IntsIn (l m : List Int) (w : World) (i : Value) (wr : World) : Prop := ∃ k : Nat, i = .int .i64 k ∧ k ≤ l.length ∧ eqTo l m k ∧ Below w.heap.size w wr

theorem Sl.of_ref {w : World} {g : Nat} {ws : List Int} (h : RefOk w g ws) (hN : ws.length ≤ 1000000) : Sl w w.heap.size (.slice (some ⟨g, 0, none⟩) ws.length ws.length) ws :=
  ⟨_, _, rfl, Nat.le_refl _, by omega, reads_words h⟩
theorem cutW_whole (ws : List Int) (N : Nat) (h : ws.length = N) : cutW ws 0 N = ws := by
  unfold cutW
  rw [show (min (N : Int) ws.length).toNat = ws.length by omega, show (max (0 : Int) 0).toNat = 0 by omega, List.take_length]
  rfl
set_option maxHeartbeats 1000000 in
theorem anew10_no (s t f l p : Int) (w : World) (hT : Tab w) (hc : cfgOk s t f l p = false) :
    Calls Tryz.prog 7 #[.agg #[.int .i64 s, .int .i64 t, .int .i64 f, .int .i64 l, .int .i64 p]] w fun e w' => e = .returned (.pointer none) ∧ Below w.heap.size w w' := by
  have MN := hide (fun w2 hb => mnew_no s t f l p w2 (hT.below hb) hc)
  have B0 := (Below.refl w.heap.size w).alloc (Nat.le_refl _) (.cells #[.int .i64 s, .int .i64 t, .int .i64 f, .int .i64 l, .int .i64 p] 23)
  have bc := Blk.new w 23 #[.int .i64 s, .int .i64 t, .int .i64 f, .int .i64 l, .int .i64 p]
  have mc := fun i => bc.cell i
  clear hT hc
  go_enter Tryz.func7, Tryz.ntmps7
  go_wp2_with fail
  refine (MN.out _ B0).mono ?_
  rintro e w1 ⟨rfl, hb1⟩
  go_wp2_with fail
  go_ret
  exact ⟨rfl, B0.trans (hb1.mono B0.size)⟩
set_option maxHeartbeats 1000000 in
theorem rnew10_no (s t f l p : Int) (w : World) (hc : cfgOk s t f l p = false) :
    Calls Tryz.prog 8 #[.agg #[.int .i64 s, .int .i64 t, .int .i64 f, .int .i64 l, .int .i64 p]] w fun e w' => (∃ g, e = .returned (.slice (some ⟨g, 0, none⟩) 0 0) ∧ RefOk w' g (zs 0)) ∧ Below w.heap.size w w' := by
  have RN := hide (fun w2 => rnew_any s t f l p 0 w2 (by unfold rSize; rw [hc]; rfl) (by omega))
  have B0 := (Below.refl w.heap.size w).alloc (Nat.le_refl _) (.cells #[.int .i64 s, .int .i64 t, .int .i64 f, .int .i64 l, .int .i64 p] 23)
  have bc := Blk.new w 23 #[.int .i64 s, .int .i64 t, .int .i64 f, .int .i64 l, .int .i64 p]
  have mc := fun i => bc.cell i
  clear hc
  go_enter Tryz.func8, Tryz.ntmps8
  go_wp2_with fail
  refine (RN.out _).mono ?_
  rintro e w1 ⟨⟨g, rfl, R, hg⟩, hb1⟩
  go_wp2_with fail
  go_ret
  exact ⟨⟨g, rfl, R⟩, B0.trans (hb1.mono B0.size)⟩
theorem beg_shp1 {s t f : Int} (hs : 1 ≤ s ∧ s ≤ 1000) (ht : 1 ≤ t ∧ t ≤ 64) (hf : 4 ≤ f ∧ f ≤ 64) : wGet (begL s t f) (nB t f 1 + 1) = 0 := by
  have b := nB_bd hs ht hf (sl := 1) (by omega)
  rw [beg_get (by omega)]
  have h2 := (at_or (t := t) (f := f) (j := nB t f 1 + 1) (k := 1) (c := 1) (by omega) (by omega)).1 (by omega)
  have hp : nB t f 1 + 1 ≠ 2 := by unfold nB; omega
  unfold begAt
  rw [if_neg hp]
  unfold bK bOR
  rw [h2.1, h2.2]
  simp
theorem beg_nodV {s t f : Int} (hs : 1 ≤ s ∧ s ≤ 1000) (ht : 1 ≤ t ∧ t ≤ 64) (hf : 4 ≤ f ∧ f ≤ 64) : nodV (begL s t f) t f 1 = [] := by
  have h : nodN (begL s t f) t f 1 = 0 := by
    unfold nodN
    rw [beg_shp1 hs ht hf]
    unfold ents
    rw [if_neg (by omega), if_neg (by omega)]
    rfl
  unfold nodV
  rw [h]
  rfl
theorem run_field2 (b : Bool) (A1 A2 : Option Addr) (n1 c1 n2 c2 : Nat) (l : Int) (w : World) : (Instr.field 82 (.agg #[.bool b, .slice A1 n1 c1, .slice A2 n2 c2, .int .u64 l]) 2).run Tryz.prog w = .ok (.slice A2 n2 c2) w := by kernel_rfl
end Go.Proofs.YtlnckjemfabckaaGreatDoor

/-
  arena.Handle; nodes of slots that there are not.
-/
namespace Go.Proofs.YtlnckjemfabckaaGreatDoor
open Go.RowKit

set_option maxRecDepth 100000 in
set_option maxHeartbeats 4000000 in
theorem ahandle_no (gm gw : Nat) (s t f l p k : Int) (ws : List Int) (w : World) (hs : 1 ≤ s ∧ s ≤ 1000) (ht : 1 ≤ t ∧ t ≤ 64) (hf : 4 ≤ f ∧ f ≤ 64) (hk : k < 1 ∨ s < k) (M : MemOk w gm gw s t f l p ws) :
    Calls Tryz.prog 43 #[.pointer (some ⟨gm, 0, none⟩), .int .i64 k] w fun e w' => e = .returned (.int .u64 0) ∧ Below w.heap.size w w' := by
  obtain ⟨m0, m1, m2, m3, m4⟩ := mem5 M
  by_cases h1 : k < 1
  · clear M hs ht hf hk
    go_enter Tryz.func43, Tryz.ntmps43
    go_wp2_with fail
    go_ret
    exact ⟨rfl, Below.refl _ _⟩
  · have CV := hide (fun w2 => lver_any s t f l p k w2 hs ht hf)
    rw [atpB_6no (hk.imp (fun h => absurd h h1) id)] at CV
    clear M hs ht hf hk
    go_enter Tryz.func43, Tryz.ntmps43
    go_wp2_with fail
    refine (CV.out _).mono ?_
    rintro e w1 ⟨rfl, hb⟩
    go_wp2_with fail
    go_ret
    exact ⟨rfl, hb⟩
theorem ahandle_yes (gm gw : Nat) (s t f l p k : Int) (ws : List Int) (w : World) (hs : 1 ≤ s ∧ s ≤ 1000) (ht : 1 ≤ t ∧ t ≤ 64) (hf : 4 ≤ f ∧ f ≤ 64) (hk : 1 ≤ k ∧ k ≤ s) (M : MemOk w gm gw s t f l p ws) (h64 : AllW64 ws) :
    Calls Tryz.prog 43 #[.pointer (some ⟨gm, 0, none⟩), .int .i64 k] w fun e w' => e = .returned (.int .u64 (hmk (vgen (wGet ws (nB t f k))) k)) ∧ Below w.heap.size w w' := by
  have hbd := nB_bd hs ht hf (sl := k) (by omega)
  have CV := hide (fun w2 => lver_any s t f l p k w2 hs ht hf)
  rw [atpB_6 (by omega)] at CV
  have WD := hide (fun w2 (h : MemOk w2 gm gw s t f l p ws) => word_any gm gw s t f l p (nB t f k) ws w2 h)
  have hx := wGet_w64 h64 (nB t f k)
  have G := hide (fun w2 => vgen_any (wGet ws (nB t f k)) w2 hx)
  have hg : W64 (vgen (wGet ws (nB t f k))) := by obtain ⟨a, b⟩ := hx; unfold vgen; exact ⟨by omega, by omega⟩
  have HM := hide (fun w2 => hnmake_any (vgen (wGet ws (nB t f k))) k w2 hg ⟨by omega, by omega⟩)
  generalize hmk (vgen (wGet ws (nB t f k))) k = r at *
  generalize vgen (wGet ws (nB t f k)) = gn at *
  generalize wGet ws (nB t f k) = x at *
  have h0 : ¬ k < 1 := by omega
  have h2 : ¬ nB t f k < 0 := by omega
  generalize nB t f k = a at *
  clear hs ht hf hk hbd hx hg h64
  obtain ⟨m0, m1, m2, m3, m4⟩ := mem5 M
  go_enter Tryz.func43, Tryz.ntmps43
  go_wp2_with fail
  refine (CV.out _).mono ?_
  rintro e w1 ⟨rfl, hb⟩
  replace M := M.below hb
  clear m0 m1 m2 m3 m4
  obtain ⟨m0, m1, m2, m3, m4⟩ := mem5 M
  go_wp2_with fail
  refine (CV.out _).mono ?_
  rintro e w2 ⟨rfl, hb2⟩
  replace M := M.below hb2
  replace hb := hb.trans (hb2.mono hb.size)
  clear m0 m1 m2 m3 m4 hb2
  go_wp2_with fail
  refine (WD.out _ M).mono ?_
  rintro e w3 ⟨rfl, rfl⟩
  go_wp2_with fail
  refine (G.out _).mono ?_
  rintro e w3 ⟨rfl, rfl⟩
  go_wp2_with fail
  refine (HM.out _).mono ?_
  rintro e w3 ⟨rfl, rfl⟩
  go_wp2_with fail
  go_ret
  exact ⟨rfl, hb⟩
set_option maxRecDepth 100000 in
set_option maxHeartbeats 4000000 in
theorem rnode_none (s t f l p k : Int) (A : Option Addr) (N0 c0 : Nat) (w : World) (h : N0 = 0 ∨ (N0 ≠ 0 ∧ k < 0) ∨ (N0 ≠ 0 ∧ ¬ k < 0 ∧ s < k)) :
    Calls Tryz.prog 49 #[.agg #[.int .i64 s, .int .i64 t, .int .i64 f, .int .i64 l, .int .i64 p], .slice A N0 c0, .int .i64 k] w fun e w' => e = .returned (.agg #[.bool false, .slice none 0 0, .slice none 0 0, .int .u64 0]) ∧ Below w.heap.size w w' := by
  rcases h with h | ⟨h, h1⟩ | ⟨h, h1, h2⟩
  · subst h
    have B0 := (((Below.refl w.heap.size w).alloc (Nat.le_refl _) (.cells #[.int .i64 s, .int .i64 t, .int .i64 f, .int .i64 l, .int .i64 p] 23)).alloc (by simp only [World.size_alloc]; omega) (.cells #[.bool false, .slice none 0 0, .slice none 0 0, .int .u64 0] 82)).alloc (by simp only [World.size_alloc]; omega) (.cells #[.bool false, .slice none 0 0, .slice none 0 0, .int .u64 0] 82)
    have bc := ((Blk.new w 23 #[.int .i64 s, .int .i64 t, .int .i64 f, .int .i64 l, .int .i64 p]).alloc (.cells #[.bool false, .slice none 0 0, .slice none 0 0, .int .u64 0] 82)).alloc (.cells #[.bool false, .slice none 0 0, .slice none 0 0, .int .u64 0] 82)
    have br := (Blk.new (w.alloc (.cells #[.int .i64 s, .int .i64 t, .int .i64 f, .int .i64 l, .int .i64 p] 23)) 82 #[.bool false, .slice none 0 0, .slice none 0 0, .int .u64 0]).alloc (.cells #[.bool false, .slice none 0 0, .slice none 0 0, .int .u64 0] 82)
    have bn := Blk.new ((w.alloc (.cells #[.int .i64 s, .int .i64 t, .int .i64 f, .int .i64 l, .int .i64 p] 23)).alloc (.cells #[.bool false, .slice none 0 0, .slice none 0 0, .int .u64 0] 82)) 82 #[.bool false, .slice none 0 0, .slice none 0 0, .int .u64 0]
    simp only [World.size_alloc] at br bn
    have mc := fun j => bc.cell j
    have mn := fun j => bn.cell j
    have zn := fun j => bn.frozen j
    have mr := fun j => br.cell j
    have zr := fun j => br.frozen j
    go_enter Tryz.func49, Tryz.ntmps49
    go_wp2_with fail
    have m9 := fun j => br.cell j
    clear mc mn zn mr zr
    refine bodyPost_ret (v := .agg #[.bool false, .slice none 0 0, .slice none 0 0, .int .u64 0]) (by simp [results, Tryz.results49, go_sem, m9]) rfl ⟨rfl, B0⟩
  · have q1 : ((N0 : Int) == 0) = false := by simp; omega
    clear h
    have B0 := (((Below.refl w.heap.size w).alloc (Nat.le_refl _) (.cells #[.int .i64 s, .int .i64 t, .int .i64 f, .int .i64 l, .int .i64 p] 23)).alloc (by simp only [World.size_alloc]; omega) (.cells #[.bool false, .slice none 0 0, .slice none 0 0, .int .u64 0] 82)).alloc (by simp only [World.size_alloc]; omega) (.cells #[.bool false, .slice none 0 0, .slice none 0 0, .int .u64 0] 82)
    have bc := ((Blk.new w 23 #[.int .i64 s, .int .i64 t, .int .i64 f, .int .i64 l, .int .i64 p]).alloc (.cells #[.bool false, .slice none 0 0, .slice none 0 0, .int .u64 0] 82)).alloc (.cells #[.bool false, .slice none 0 0, .slice none 0 0, .int .u64 0] 82)
    have br := (Blk.new (w.alloc (.cells #[.int .i64 s, .int .i64 t, .int .i64 f, .int .i64 l, .int .i64 p] 23)) 82 #[.bool false, .slice none 0 0, .slice none 0 0, .int .u64 0]).alloc (.cells #[.bool false, .slice none 0 0, .slice none 0 0, .int .u64 0] 82)
    have bn := Blk.new ((w.alloc (.cells #[.int .i64 s, .int .i64 t, .int .i64 f, .int .i64 l, .int .i64 p] 23)).alloc (.cells #[.bool false, .slice none 0 0, .slice none 0 0, .int .u64 0] 82)) 82 #[.bool false, .slice none 0 0, .slice none 0 0, .int .u64 0]
    simp only [World.size_alloc] at br bn
    have mc := fun j => bc.cell j
    have mn := fun j => bn.cell j
    have zn := fun j => bn.frozen j
    have mr := fun j => br.cell j
    have zr := fun j => br.frozen j
    go_enter Tryz.func49, Tryz.ntmps49
    go_wp2_with fail
    have m9 := fun j => br.cell j
    clear mc mn zn mr zr
    refine bodyPost_ret (v := .agg #[.bool false, .slice none 0 0, .slice none 0 0, .int .u64 0]) (by simp [results, Tryz.results49, go_sem, m9]) rfl ⟨rfl, B0⟩
  · have q1 : ((N0 : Int) == 0) = false := by simp; omega
    clear h
    have B0 := (((Below.refl w.heap.size w).alloc (Nat.le_refl _) (.cells #[.int .i64 s, .int .i64 t, .int .i64 f, .int .i64 l, .int .i64 p] 23)).alloc (by simp only [World.size_alloc]; omega) (.cells #[.bool false, .slice none 0 0, .slice none 0 0, .int .u64 0] 82)).alloc (by simp only [World.size_alloc]; omega) (.cells #[.bool false, .slice none 0 0, .slice none 0 0, .int .u64 0] 82)
    have bc := ((Blk.new w 23 #[.int .i64 s, .int .i64 t, .int .i64 f, .int .i64 l, .int .i64 p]).alloc (.cells #[.bool false, .slice none 0 0, .slice none 0 0, .int .u64 0] 82)).alloc (.cells #[.bool false, .slice none 0 0, .slice none 0 0, .int .u64 0] 82)
    have br := (Blk.new (w.alloc (.cells #[.int .i64 s, .int .i64 t, .int .i64 f, .int .i64 l, .int .i64 p] 23)) 82 #[.bool false, .slice none 0 0, .slice none 0 0, .int .u64 0]).alloc (.cells #[.bool false, .slice none 0 0, .slice none 0 0, .int .u64 0] 82)
    have bn := Blk.new ((w.alloc (.cells #[.int .i64 s, .int .i64 t, .int .i64 f, .int .i64 l, .int .i64 p] 23)).alloc (.cells #[.bool false, .slice none 0 0, .slice none 0 0, .int .u64 0] 82)) 82 #[.bool false, .slice none 0 0, .slice none 0 0, .int .u64 0]
    simp only [World.size_alloc] at br bn
    have mc := fun j => bc.cell j
    have mn := fun j => bn.cell j
    have zn := fun j => bn.frozen j
    have mr := fun j => br.cell j
    have zr := fun j => br.frozen j
    go_enter Tryz.func49, Tryz.ntmps49
    go_wp2_with fail
    have m9 := fun j => br.cell j
    clear mc mn zn mr zr
    refine bodyPost_ret (v := .agg #[.bool false, .slice none 0 0, .slice none 0 0, .int .u64 0]) (by simp [results, Tryz.results49, go_sem, m9]) rfl ⟨rfl, B0⟩
theorem ndo_zero (w : World) (lo : Nat) : NdO w lo (.agg #[.bool false, .slice none 0 0, .slice none 0 0, .int .u64 0]) false [] [] 0 := ⟨_, _, rfl, World.ownsRow_nil _ _ _ _, World.ownsRow_nil _ _ _ _⟩
/-- A node of any slot, as the program and the reference tell it. -/
def NodeSame (gm gw g : Nat) (s t f l p k : Int) (N0 c0 : Nat) (ws : List Int) (b : Bool) (ks vs : List Int) (lk : Int) : Prop :=
  (∀ w2, MemOk w2 gm gw s t f l p ws → Calls Tryz.prog 40 #[.pointer (some ⟨gm, 0, none⟩), .int .i64 k] w2 fun e w' => (∃ v, e = .returned v ∧ NdO w' w2.heap.size v b ks vs lk) ∧ Below w2.heap.size w2 w') ∧
  (∀ w2, RefOk w2 g ws → Calls Tryz.prog 49 #[.agg #[.int .i64 s, .int .i64 t, .int .i64 f, .int .i64 l, .int .i64 p], .slice (some ⟨g, 0, none⟩) N0 c0, .int .i64 k] w2 fun e w' => (∃ v, e = .returned v ∧ NdO w' w2.heap.size v b ks vs lk) ∧ Below w2.heap.size w2 w') ∧ ks.length ≤ 64 ∧ vs.length ≤ 64
theorem node_same (gm gw g : Nat) (s t f l p k : Int) (N0 c0 : Nat) (ws : List Int) (hs : 1 ≤ s ∧ s ≤ 1000) (ht : 1 ≤ t ∧ t ≤ 64) (hf : 4 ≤ f ∧ f ≤ 64) (hN0 : laySize s t f = N0) (hl : ws.length = N0) (h64 : AllW64 ws) :
    ∃ b ks vs lk, NodeSame gm gw g s t f l p k N0 c0 ws b ks vs lk := by
  have hsp := size_pos hs ht hf
  by_cases hk : 0 ≤ k ∧ k ≤ s
  · refine ⟨_, _, _, _, fun w2 M => anode_yes gm gw s t f l p k ws w2 hs ht hf hk M h64, fun w2 R => rnode_yes g s t f l p k N0 c0 ws w2 hs ht hf hk hN0 hl R h64, ?_, ?_⟩
    · have h1 := nodN_le (t := t) (k := k) h64 hf
      have h2 := nodKn_le ws t f k
      unfold nodK
      rw [rowL_len]
      omega
    · have h1 := nodN_le (t := t) (k := k) h64 hf
      unfold nodV
      rw [rowL_len]
      omega
  · refine ⟨false, [], [], 0, fun w2 M => (anode_no gm gw s t f l p k ws w2 hs ht hf (by omega) M).mono fun e w' ⟨he, hb⟩ => ⟨⟨_, he, ndo_zero _ _⟩, hb⟩, fun w2 R => (rnode_none s t f l p k _ N0 c0 w2 (by omega)).mono fun e w' ⟨he, hb⟩ => ⟨⟨_, he, ndo_zero _ _⟩, hb⟩, by simp, by simp⟩
theorem mWri_w64 {ws : List Int} {l : List (Int × Int)} (h : AllW64 ws) (hl : ∀ r ∈ l, W64 r.2) : ∀ k, AllW64 (mWri ws l k)
  | 0 => h
  | k + 1 => wPut_w64 (mWri_w64 h hl k) (by
    by_cases hk : k < l.length
    · rw [show l.getD k (0, 0) = l[k] by simp [List.getD, hk]]
      exact hl _ (List.getElem_mem hk)
    · rw [show l.getD k (0, 0) = (0, 0) by simp [List.getD, Nat.le_of_not_lt hk]]
      exact ⟨by omega, by omega⟩)
theorem mDo_two (ws : List Int) (a n : Int) : (mDo ws 2 a 0 n).2 = wPut ws a n := by
  unfold mDo
  rw [if_neg (by omega), if_pos rfl]
theorem vgen_field (x : Int) (w : World) : (Instr.field 77 (vagg x) 3).run Tryz.prog w = .ok (.int .u64 (vgen x)) w := by kernel_rfl
end Go.Proofs.YtlnckjemfabckaaGreatDoor

/-
  A node's words; handles' texts.
-/
namespace Go.Proofs.YtlnckjemfabckaaGreatDoor
open Go.RowKit

def htx (h : Int) : ByteArray := (strOfNums (form 10 (hsl h).toNat) ++ ⟨#[58]⟩) ++ strOfNums (form 10 (hgn h).toNat)
theorem htx_size (h : Int) : (htx h).size ≤ 130 := by
  have h1 := form_size 10 (hsl h).toNat
  have h2 := form_size 10 (hgn h).toNat
  have h3 : (⟨#[58]⟩ : ByteArray).size = 1 := rfl
  unfold htx
  simp only [ba_size]
  omega
set_option maxHeartbeats 400000 in
theorem htext_any (h : Int) (w : World) (hh : W64 h) : Calls Tryz.prog 42 #[.int .u64 h] w fun e w' => e = .returned (.string (htx h)) ∧ Below w.heap.size w w' := by
  have Sl := hide (fun w => hnslot_any h w hh)
  have Gn := hide (fun w => hngen_any h w hh)
  have b : 0 ≤ hsl h ∧ hsl h < 65536 := by unfold hsl; omega
  have b' : 0 ≤ hgn h ∧ hgn h < 16777216 := by unfold hgn; omega
  obtain ⟨m, hm⟩ := Int.eq_ofNat_of_zero_le b.1
  obtain ⟨n, hn⟩ := Int.eq_ofNat_of_zero_le b'.1
  have In := hide (fun w => int_any (hsl h) w ⟨by omega, by omega⟩)
  have ei : intL (hsl h) = form 10 m := by
    unfold intL
    rw [hm, if_neg (by omega), Int.toNat_natCast]
  rw [ei] at In
  have Tx := hide (fun w => text_any n w (by omega))
  rw [← hn] at Tx
  have E := hide (show htx h = (strOfNums (form 10 m) ++ ⟨#[58]⟩) ++ strOfNums (form 10 n) by
    unfold htx
    rw [hm, hn, Int.toNat_natCast, Int.toNat_natCast])
  have z1 := form_size 10 m
  have z2 := form_size 10 n
  clear ei hm hn b b'
  generalize htx h = R at *
  generalize strOfNums (form 10 m) = s1 at *
  generalize strOfNums (form 10 n) = s2 at *
  have z3 : (s1 ++ (⟨#[58]⟩ : ByteArray)).size ≤ 65 := by
    rw [ByteArray.size_append]
    show s1.size + 1 ≤ 65
    omega
  generalize hsl h = sv at *
  generalize hgn h = gv at *
  go_enter Tryz.func42, Tryz.ntmps42
  go_wp2_with fail
  refine (Sl.out _).mono ?_
  rintro e w' ⟨rfl, rfl⟩
  go_wp2_with fail
  refine (In.out _).mono ?_
  rintro e w1 ⟨rfl, hb1⟩
  go_wp2_with fail
  refine (Gn.out _).mono ?_
  rintro e w' ⟨rfl, rfl⟩
  go_wp2_with fail
  refine (Tx.out _).mono ?_
  rintro e w2 ⟨rfl, hb2⟩
  go_wp2_with fail
  go_ret
  exact ⟨by rw [E.out]; rfl, hb1.trans (hb2.mono hb1.size)⟩

def numI (x : Int) : ByteArray := numT x.toNat
theorem numI_size (x : Int) : (numI x).size ≤ 64 := numT_size _
theorem texti_any (x : Int) (w : World) (hx : W64 x) : Calls Tryz.prog 47 #[.int .u64 x] w fun e w' => e = .returned (.string (numI x)) ∧ Below w.heap.size w w' := by
  obtain ⟨h1, h2⟩ := hx
  obtain ⟨n, rfl⟩ := Int.eq_ofNat_of_zero_le h1
  exact text_any n w (by omega)
theorem numberi_any (x : Int) (w : World) (hx : W64 x) : Calls Tryz.prog 53 #[.int .u64 x] w fun e w' => e = .returned (.string (numI x)) ∧ Below w.heap.size w w' := by
  obtain ⟨h1, h2⟩ := hx
  obtain ⟨n, rfl⟩ := Int.eq_ofNat_of_zero_le h1
  exact number_any n w (by omega)
def entT (k v : Int) : ByteArray := numI k ++ eq1 ++ numI v
theorem entT_size (k v : Int) : (entT k v).size ≤ 130 := by
  have h1 := numI_size k
  have h2 := numI_size v
  have h3 : eq1.size = 1 := rfl
  unfold entT
  simp only [ba_size]
  omega
set_option maxHeartbeats 400000 in
theorem dentry_any (k v : Int) (w : World) (hk : W64 k) (hv : W64 v) : Calls Tryz.prog 46 #[.int .u64 k, .int .u64 v] w fun e w' => e = .returned (.string (entT k v)) ∧ Below w.heap.size w w' := by
  have T1 := hide (fun w => texti_any k w hk)
  have T2 := hide (fun w => texti_any v w hv)
  have E := hide (show entT k v = numI k ++ eq1 ++ numI v from rfl)
  have z1 := numI_size k
  have z2 := numI_size v
  generalize entT k v = R at *
  generalize numI k = s1 at *
  generalize numI v = s2 at *
  clear hk hv
  go_enter Tryz.func46, Tryz.ntmps46
  go_wp2_with fail
  refine (T1.out _).mono ?_
  rintro e w1 ⟨rfl, hb1⟩
  go_wp2_with fail
  refine (T2.out _).mono ?_
  rintro e w2 ⟨rfl, hb2⟩
  go_wp2_with fail
  go_ret
  exact ⟨by rw [E.out]; rfl, hb1.trans (hb2.mono hb1.size)⟩

def anchorB : ByteArray := ⟨#[97, 110, 99, 104, 111, 114]⟩
def leafB : ByteArray := ⟨#[108, 101, 97, 102]⟩
def innerB : ByteArray := ⟨#[105, 110, 110, 101, 114]⟩
def lockedB : ByteArray := ⟨#[108, 111, 99, 107, 101, 100]⟩
def deadB : ByteArray := ⟨#[100, 101, 97, 100]⟩
def nextB : ByteArray := ⟨#[110, 101, 120, 116]⟩
def wA (s0 s1 : ByteArray) (lo : Bool) : List ByteArray := [s0, s1] ++ (if lo = true then [lockedB] else [])
def wB (s0 s1 : ByteArray) (lo de : Bool) : List ByteArray := wA s0 s1 lo ++ (if de = true then [deadB] else [])
def entW (b : Bool) (ks vs : List Int) (i : Nat) : List ByteArray :=
  if b = true then (if i = 0 then [htx (vs.getD i 0)] else [numI (ks.getD (i - 1) 0), htx (vs.getD i 0)]) else [entT (ks.getD i 0) (vs.getD i 0)]
def wC (W0 : List ByteArray) (b : Bool) (ks vs : List Int) (n : Nat) : List ByteArray := W0 ++ ((List.range n).map (entW b ks vs)).flatten
theorem wC_zero (W0 : List ByteArray) (b : Bool) (ks vs : List Int) : wC W0 b ks vs 0 = W0 := by simp [wC]
theorem wC_succ (W0 : List ByteArray) (b : Bool) (ks vs : List Int) (n : Nat) : wC W0 b ks vs (n + 1) = wC W0 b ks vs n ++ entW b ks vs n := by simp [wC, List.range_succ]
def nodeL (s0 s1 : ByteArray) (lo de b : Bool) (ks vs : List Int) (lk : Int) : List ByteArray :=
  wC (wB s0 s1 lo de) b ks vs vs.length ++ (if b = false ∧ lk ≠ 0 then [nextB, htx lk] else [])
theorem entW_len (b : Bool) (ks vs : List Int) (i : Nat) : (entW b ks vs i).length ≤ 2 := by
  unfold entW
  split
  · split <;> simp
  · simp
theorem wC_len (W0 : List ByteArray) (b : Bool) (ks vs : List Int) : ∀ n, (wC W0 b ks vs n).length ≤ W0.length + 2 * n
  | 0 => by rw [wC_zero]; omega
  | n + 1 => by
    have h1 := wC_len W0 b ks vs n
    have h2 := entW_len b ks vs n
    rw [wC_succ, List.length_append]
    omega
theorem wB_len (s0 s1 : ByteArray) (lo de : Bool) : (wB s0 s1 lo de).length ≤ 4 := by cases lo <;> cases de <;> simp [wB, wA]
theorem wB_ne (s0 s1 : ByteArray) (lo de : Bool) : wB s0 s1 lo de ≠ [] := by simp [wB, wA]
theorem wC_ne {W0 : List ByteArray} (h : W0 ≠ []) (b : Bool) (ks vs : List Int) (n : Nat) : wC W0 b ks vs n ≠ [] := by simp [wC, h]
theorem wB_ok {s0 s1 : ByteArray} (h0 : s0.size ≤ 140) (h1 : s1.size ≤ 140) (lo de : Bool) : ∀ x ∈ wB s0 s1 lo de, x.size ≤ 140 := by
  intro x hx
  have a1 : lockedB.size ≤ 140 := by decide
  have a2 : deadB.size ≤ 140 := by decide
  cases lo <;> cases de <;> simp [wB, wA] at hx <;> rcases hx with rfl | rfl | rfl | rfl <;> assumption
theorem entW_ok (b : Bool) (ks vs : List Int) (i : Nat) : ∀ x ∈ entW b ks vs i, x.size ≤ 140 := by
  intro x hx
  unfold entW at hx
  have h1 := htx_size (vs.getD i 0)
  have h2 := numI_size (ks.getD (i - 1) 0)
  have h3 := entT_size (ks.getD i 0) (vs.getD i 0)
  split at hx
  · split at hx
    · simp only [List.mem_cons, List.not_mem_nil, or_false] at hx
      subst hx
      omega
    · simp only [List.mem_cons, List.not_mem_nil, or_false] at hx
      rcases hx with rfl | rfl <;> omega
  · simp only [List.mem_cons, List.not_mem_nil, or_false] at hx
    subst hx
    omega
theorem wC_ok {W0 : List ByteArray} (h : ∀ x ∈ W0, x.size ≤ 140) (b : Bool) (ks vs : List Int) (n : Nat) : ∀ x ∈ wC W0 b ks vs n, x.size ≤ 140 := by
  intro x hx
  unfold wC at hx
  rw [List.mem_append] at hx
  rcases hx with hx | hx
  · exact h x hx
  · obtain ⟨l, hl, hx⟩ := List.mem_flatten.1 hx
    obtain ⟨i, _, rfl⟩ := List.mem_map.1 hl
    exact entW_ok b ks vs i x hx
theorem joinT_wC {W0 : List ByteArray} (h : ∀ x ∈ W0, x.size ≤ 140) (hl : W0.length ≤ 4) (b : Bool) (ks vs : List Int) (n : Nat) (hn : n ≤ 64) : (joinT (wC W0 b ks vs n)).size ≤ 20000 := by
  have h1 := joinT_size_le _ 140 (wC_ok h b ks vs n)
  have h2 := wC_len W0 b ks vs n
  have h3 := Nat.mul_le_mul_right (140 + 1) (show (wC W0 b ks vs n).length ≤ 132 by omega)
  omega
theorem joinT_nodeL {s0 s1 : ByteArray} (h0 : s0.size ≤ 140) (h1 : s1.size ≤ 140) (lo de b : Bool) (ks vs : List Int) (lk : Int) (hv : vs.length ≤ 64) : (joinT (nodeL s0 s1 lo de b ks vs lk)).size ≤ 20000 := by
  have h2 := joinT_size_le (nodeL s0 s1 lo de b ks vs lk) 140 (fun x hx => by
    unfold nodeL at hx
    rw [List.mem_append] at hx
    rcases hx with hx | hx
    · exact wC_ok (wB_ok h0 h1 lo de) b ks vs _ x hx
    · split at hx
      · simp only [List.mem_cons, List.not_mem_nil, or_false] at hx
        rcases hx with rfl | rfl
        · decide
        · have := htx_size lk; omega
      · cases hx)
  have h3 := wC_len (wB s0 s1 lo de) b ks vs vs.length
  have h4 := wB_len s0 s1 lo de
  have h5 : (nodeL s0 s1 lo de b ks vs lk).length ≤ 134 := by
    unfold nodeL
    rw [List.length_append]
    split <;> simp <;> omega
  have h6 := Nat.mul_le_mul_right (140 + 1) h5
  omega
def nodeT (ws : List Int) (t f k : Int) : ByteArray :=
  joinT (nodeL (if k = 0 then anchorB else htx (hmk (vgen (wGet ws (nB t f k))) k)) (if nodI ws t f k = true then innerB else leafB) (vlocked (wGet ws (nB t f k))) (vdead (wGet ws (nB t f k))) (nodI ws t f k) (nodK ws t f k) (nodV ws t f k) (nodL ws t f k))
theorem nodeT_size (ws : List Int) (t f k : Int) (h64 : AllW64 ws) (hf : 4 ≤ f ∧ f ≤ 64) : (nodeT ws t f k).size ≤ 20000 := by
  refine joinT_nodeL ?_ ?_ _ _ _ _ _ _ ?_
  · split
    · decide
    · have := htx_size (hmk (vgen (wGet ws (nB t f k))) k); omega
  · split <;> decide
  · have h1 := nodN_le (t := t) (k := k) h64 hf
    unfold nodV
    rw [rowL_len]
    omega
end Go.Proofs.YtlnckjemfabckaaGreatDoor

