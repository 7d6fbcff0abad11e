/-
  The Go function MemoryCuts.
-/
import Derived.Test.YtpkocgcagemnbaaDoorMemoY
import Derived.Test.YtpkocgcagemnbaaDoorWeq
import Derived.Laws.StructEq
namespace Go.Proofs.YtpkocgcagemnbaaDoor
open Go.RowKit
attribute [local go_sem] past_cell past_cell_add

theorem cfg_same (s t f c0 p : Int) (w : World) : (binOp .neq 23 (.agg #[.int .i64 s, .int .i64 t, .int .i64 f, .int .i64 c0, .int .i64 p]) (.agg #[.int .i64 s, .int .i64 t, .int .i64 f, .int .i64 c0, .int .i64 p])).run Tryd.prog w = .ok (.bool false) w := by
  have hs : Tryd.prog.stoodInHeld 23 = false := by kernel_rfl
  rw [run_neq_struct, show (10000 : Nat) = 9999 + 1 from rfl, run_equalIn_agg _ _ _ _ _ (by kernel_rfl) hs]
  simp [Program.fieldsOf, Tryd.underlying23, Tryd.underlying3, Op.eqFields, run_equalIn_int, go_sem]
theorem words_any (gm gw : Nat) (s t f l p a b : Int) (ws : List Int) (w : World) (hm : MemOk w gm gw s t f l p ws) (hN : ws.length ≤ 1000000) :
    Calls Tryd.prog 30 #[.pointer (some ⟨gm, 0, none⟩), .int .i64 a, .int .i64 b] w fun e w' => (∃ u, e = .returned u ∧ Own w' w.heap.size u (cutW ws a b)) ∧ Below w.heap.size w w' := by
  by_cases h : min b (ws.length : Int) ≤ max a 0
  · rw [cutW_none h]
    exact (words_none gm ws.length _ a b w hm.words h).mono fun e w' ⟨he, hb⟩ => ⟨⟨_, he, Own.nil _ _⟩, hb⟩
  · exact words_some gm gw (max a 0).toNat (min b (ws.length : Int)).toNat s t f l p a b ws w hm hN (by omega) (by omega) (by omega)
/-- The words wanted so far. -/
def wantW (ws : List Int) (a b : Int) : Nat → List Int
  | 0 => []
  | k + 1 => if a ≤ k ∧ (k : Int) < b then wantW ws a b k ++ [ws.getD k 0] else wantW ws a b k
theorem wantW_zero (ws : List Int) (a b : Int) : wantW ws a b 0 = [] := rfl
theorem wantW_cut (ws : List Int) (a b : Int) : ∀ k, k ≤ ws.length → wantW ws a b k = (ws.take (min b (k : Int)).toNat).drop (max a 0).toNat
  | 0, _ => by
    show ([] : List Int) = _
    rw [show (min b ((0 : Nat) : Int)).toNat = 0 by omega]
    simp
  | k + 1, h => by
    have ih := wantW_cut ws a b k (by omega)
    show (if a ≤ k ∧ (k : Int) < b then _ else _) = _
    split
    · next hk =>
      rw [ih, show (min b (k : Int)).toNat = k by omega, show (min b ((k + 1 : Nat) : Int)).toNat = k + 1 by omega, List.take_succ_eq_append_getElem (by omega), List.drop_append_of_le_length (by simp; omega)]
      simp [List.getD, show k < ws.length by omega]
    · next hk =>
      rw [ih]
      by_cases hb : (k : Int) < b
      · have ha : (k : Int) < a := by omega
        rw [List.drop_eq_nil_of_le (by simp; omega), List.drop_eq_nil_of_le (by simp; omega)]
      · rw [show (min b (k : Int)).toNat = (min b ((k + 1 : Nat) : Int)).toNat by omega]
def WantIn (ws : List Int) (a b : Int) (w : World) (v i : Value) (wr : World) : Prop :=
  ∃ (k : Nat) (A1 : Option Addr) (n1 c1 : Nat), i = .int .i64 k ∧ k ≤ ws.length ∧ v = .slice A1 n1 c1 ∧ n1 = (wantW ws a b k).length ∧ wr.ownsRow w.heap.size 43 1 (.slice A1 n1 c1) n1 (ints .u64 (wantW ws a b k)) ∧ Below w.heap.size w wr
set_option maxRecDepth 100000 in
set_option maxHeartbeats 2000000 in
theorem cuts_big (s t f c0 p a b : Int) (A : Option Addr) (n c : Nat) (w : World) (hT : Tab w) (h : (200 : Int) < n ∨ ((n : Int) ≤ 200 ∧ 5000 < rSize s t f c0 p)) :
    Calls Tryd.prog 9 #[.agg #[.int .i64 s, .int .i64 t, .int .i64 f, .int .i64 c0, .int .i64 p], .slice A n c, .int .i64 a, .int .i64 b] w fun e w' => e = .returned (.bool true) ∧ Below w.heap.size w w' := by
  have SZ := hide (fun w => rsize_any s t f c0 p w)
  have Aw := hide (fun w2 (hb : Below w.heap.size w w2) => awake09 w2 (hT.below hb))
  have bx := Blk.new w 23 #[.int .i64 s, .int .i64 t, .int .i64 f, .int .i64 c0, .int .i64 p]
  have B0 := (Below.refl w.heap.size w).alloc (Nat.le_refl _) (.cells #[.int .i64 s, .int .i64 t, .int .i64 f, .int .i64 c0, .int .i64 p] 23)
  generalize rSize s t f c0 p = R at *
  rcases h with h | ⟨h1, h2⟩
  · have HB := hide B0
    clear B0 bx
    go_enter Tryd.func9, Tryd.ntmps9
    go_wp2_with fail
    refine (Aw.out _ HB.out).mono ?_
    rintro e w1 ⟨rfl, hb1⟩
    go_wp2_with fail
    go_ret
    exact ⟨rfl, HB.out.trans (hb1.mono HB.out.size)⟩
  · go_enter Tryd.func9, Tryd.ntmps9
    go_wp2_with fail
    refine (SZ.out _).mono ?_
    rintro e w1 ⟨rfl, hb1⟩
    try replace bx := bx.below hb1 bx.lt
    try replace bo := bo.below hb1 bo.lt
    try replace by_ := by_.below hb1 by_.lt
    replace B0 := B0.trans (hb1.mono B0.size)
    clear hb1
    try clear mx lx
    try clear mo lo zo
    try clear my ly zy
    try have mx := fun i => bx.cell i
    try have lx := bx.lt
    try have mo := fun i => bo.cell i
    try have lo := bo.lt
    try have zo := fun i => bo.frozen i
    try have my := fun i => by_.cell i
    try have ly := by_.lt
    try have zy := fun i => by_.frozen i
    go_wp2_with fail
    refine (Aw.out _ B0).mono ?_
    rintro e w3 ⟨rfl, hb1⟩
    go_wp2_with fail
    go_ret
    exact ⟨rfl, B0.trans (hb1.mono B0.size)⟩

set_option maxRecDepth 100000 in
set_option maxHeartbeats 2000000 in
theorem cuts_no (s t f c0 p a b : Int) (A : Option Addr) (n c : Nat) (w : World) (hT : Tab w) (hc : cfgOk s t f c0 p = false) (hn : n ≤ 200) :
    Calls Tryd.prog 9 #[.agg #[.int .i64 s, .int .i64 t, .int .i64 f, .int .i64 c0, .int .i64 p], .slice A n c, .int .i64 a, .int .i64 b] w fun e w' => e = .returned (.bool true) ∧ Below w.heap.size w w' := by
  have eR : rSize s t f c0 p = (0 : Nat) := by unfold rSize; rw [hc]; rfl
  have SZ := hide (fun w => rsize_any s t f c0 p w)
  have Aw := hide (fun w2 (hb : Below w.heap.size w w2) => awake09 w2 (hT.below hb))
  rw [eR] at SZ
  have MN := hide (fun w2 (hb : Below w.heap.size w w2) => mnew_no s t f c0 p w2 (hT.below hb) hc)
  have RN := hide (fun w2 => rnew_any s t f c0 p 0 w2 eR (by omega))
  clear hc eR
  have bx := Blk.new w 23 #[.int .i64 s, .int .i64 t, .int .i64 f, .int .i64 c0, .int .i64 p]
  have B0 := (Below.refl w.heap.size w).alloc (Nat.le_refl _) (.cells #[.int .i64 s, .int .i64 t, .int .i64 f, .int .i64 c0, .int .i64 p] 23)
  go_enter Tryd.func9, Tryd.ntmps9
  go_wp2_with fail
  refine (SZ.out _).mono ?_
  rintro e w1 ⟨rfl, hb1⟩
  try replace bx := bx.below hb1 bx.lt
  try replace bo := bo.below hb1 bo.lt
  try replace by_ := by_.below hb1 by_.lt
  replace B0 := B0.trans (hb1.mono B0.size)
  clear hb1
  try clear mx lx
  try clear mo lo zo
  try clear my ly zy
  try have mx := fun i => bx.cell i
  try have lx := bx.lt
  try have mo := fun i => bo.cell i
  try have lo := bo.lt
  try have zo := fun i => bo.frozen i
  try have my := fun i => by_.cell i
  try have ly := by_.lt
  try have zy := fun i => by_.frozen i
  go_wp2_with fail
  refine (MN.out _ B0).mono ?_
  rintro e w2 ⟨rfl, hb1⟩
  try replace bx := bx.below hb1 bx.lt
  try replace bo := bo.below hb1 bo.lt
  try replace by_ := by_.below hb1 by_.lt
  replace B0 := B0.trans (hb1.mono B0.size)
  clear hb1
  try clear mx lx
  try clear mo lo zo
  try clear my ly zy
  try have mx := fun i => bx.cell i
  try have lx := bx.lt
  try have mo := fun i => bo.cell i
  try have lo := bo.lt
  try have zo := fun i => bo.frozen i
  try have my := fun i => by_.cell i
  try have ly := by_.lt
  try have zy := fun i => by_.frozen i
  go_wp2_with fail
  refine (RN.out _).mono ?_
  rintro e w4 ⟨⟨gr, rfl, hrf, lr⟩, hb1⟩
  replace B0 := B0.trans (hb1.mono B0.size)
  clear hb1 hrf lr bx mx lx
  have HB := hide B0
  clear B0
  go_wp2_with fail
  refine (Aw.out _ HB.out).mono ?_
  rintro e w5 ⟨rfl, hb1⟩
  go_wp2_with fail
  go_ret
  exact ⟨rfl, HB.out.trans (hb1.mono HB.out.size)⟩

def CutIn (ws : List Int) (l : List (Int × Int)) (gr : Nat) (w : World) (i : Value) (wr : World) : Prop :=
  ∃ k : Nat, i = .int .i64 k ∧ k ≤ l.length ∧ RefOk wr gr (mWri ws l k) ∧ w.grownBy wr (some gr)
set_option maxRecDepth 100000 in
set_option maxHeartbeats 8000000 in
theorem cuts_yes (s t f c0 p a b : Int) (A : Option Addr) (n c N : Nat) (l : List (Int × Int)) (w : World) (hT : Tab w) (hc : cfgOk s t f c0 p = true) (hn : n ≤ 200) (hN : laySize s t f = N) (hN5 : N ≤ 5000) (hN1 : 2 ≤ N) (hr : Reads w w.heap.size 2 A n (recW l)) :
    Calls Tryd.prog 9 #[.agg #[.int .i64 s, .int .i64 t, .int .i64 f, .int .i64 c0, .int .i64 p], .slice A n c, .int .i64 a, .int .i64 b] w fun e w' => e = .returned (.bool true) ∧ Below w.heap.size w w' := by
  have eR : rSize s t f c0 p = N := by unfold rSize; rw [hc, ← hN]; rfl
  have SZ := hide (fun w => rsize_any s t f c0 p w)
  have Aw := hide (fun w2 (hb : Below w.heap.size w w2) => awake09 w2 (hT.below hb))
  rw [eR] at SZ
  have MN := hide (fun w2 (hb : Below w.heap.size w w2) => mnew_yes s t f c0 p N w2 (hT.below hb) hc hN)
  have RN := hide (fun w2 => rnew_any s t f c0 p N w2 eR (by omega))
  have HR := hide hr
  have HL := hide hr.lenWri
  have qN : ((N : Int) == 0) = false := by rw [beq_eq_false_iff_ne]; omega
  clear hr hc hN eR
  have bx := Blk.new w 23 #[.int .i64 s, .int .i64 t, .int .i64 f, .int .i64 c0, .int .i64 p]
  have B0 := (Below.refl w.heap.size w).alloc (Nat.le_refl _) (.cells #[.int .i64 s, .int .i64 t, .int .i64 f, .int .i64 c0, .int .i64 p] 23)
  go_enter Tryd.func9, Tryd.ntmps9
  go_wp2_with fail
  refine (SZ.out _).mono ?_
  rintro e w1 ⟨rfl, hb1⟩
  try replace bx := bx.below hb1 bx.lt
  try replace bo := bo.below hb1 bo.lt
  try replace by_ := by_.below hb1 by_.lt
  replace B0 := B0.trans (hb1.mono B0.size)
  clear hb1
  try clear mx lx
  try clear mo lo zo
  try clear my ly zy
  try have mx := fun i => bx.cell i
  try have lx := bx.lt
  try have mo := fun i => bo.cell i
  try have lo := bo.lt
  try have zo := fun i => bo.frozen i
  try have my := fun i => by_.cell i
  try have ly := by_.lt
  try have zy := fun i => by_.frozen i
  go_wp2_with fail
  refine (MN.out _ B0).mono ?_
  rintro e w2 ⟨⟨gm, gw, rfl, hm, lm, lw⟩, hb1⟩
  have lm' := Nat.le_trans B0.size lm
  have lw' := Nat.le_trans B0.size lw
  have ngx : w.heap.size ≠ gw := by have := bx.lt; omega
  replace bx := bx.below hb1 bx.lt
  replace B0 := B0.trans (hb1.mono B0.size)
  have HM := hide hm
  clear hb1 hm lm lw
  try clear mx lx
  try clear mo lo zo
  try clear my ly zy
  try have mx := fun i => bx.cell i
  try have lx := bx.lt
  try have mo := fun i => bo.cell i
  try have lo := bo.lt
  try have zo := fun i => bo.frozen i
  try have my := fun i => by_.cell i
  try have ly := by_.lt
  try have zy := fun i => by_.frozen i
  go_wp2_with fail
  refine (RN.out _).mono ?_
  rintro e w4 ⟨⟨gr, rfl, hrf, lr⟩, hb1⟩
  have hgm : gm < w2.heap.size := HM.out.1.lt
  have hgw : gw < w2.heap.size := HM.out.2.1.lt
  have ngr : w.heap.size ≠ gr := by have := bx.lt; omega
  have lr' := Nat.le_trans B0.size lr
  have HM := hide (HM.out.below hb1)
  replace bx := bx.below hb1 bx.lt
  replace B0 := B0.trans (hb1.mono B0.size)
  have HRF := hide hrf
  have hr4 := HR.out.below B0
  clear hb1 hrf
  try clear mx lx
  try clear mo lo zo
  try clear my ly zy
  try have mx := fun i => bx.cell i
  try have lx := bx.lt
  try have mo := fun i => bo.cell i
  try have lo := bo.lt
  try have zo := fun i => bo.frozen i
  try have my := fun i => by_.cell i
  try have ly := by_.lt
  try have zy := fun i => by_.frozen i
  have WR := hide (write_any gm gw s t f c0 p A n c (zs N) l w4 HM.out (hr4.more B0.size) (fun h0 ad h => by
    subst h
    obtain ⟨ad', h1, h2, _⟩ := hr4.2 h0
    injection h1 with h1
    subst h1
    omega) (by omega))
  clear hr4
  go_wp2_with fail
  refine WR.out.mono ?_
  rintro e w5 ⟨⟨u5, rfl⟩, hm5, hg⟩
  have HM := hide hm5
  have HRF := hide (HRF.out.grown hg (by simp; omega))
  replace bx := bx.grown hg (by simp; omega)
  replace B0 := below_grown B0 hg lw' B0.size
  clear hm5 hg WR
  have BX := hide bx
  have HB := hide B0
  clear bx B0 mx lx
  go_wp2_with fail
  go_loopw [11] (CutIn (zs N) l gr w5) (fun i _ => n - (intOf i).toNat)
  case atStart => exact ⟨0, rfl, by omega, HRF.out, World.grownBy.refl _ _⟩
  case round =>
    obtain ⟨k, rfl, hk, href, hg⟩ := hrel
    have hlen : (mWri (zs N) l k).length = N := (mWri_len _ _ _).trans List.length_replicate
    have HRef := hide href
    have HG := hide hg
    clear href hg
    have HB2 := hide (below_grown HB.out HG.out lr' HB.out.size)
    by_cases hlt : k < n
    · obtain ⟨ad, rfl, hab, hkl, z0, z1⟩ := (HR.out.below HB2.out).wri hlt
      have hs := hide (show mWri (zs N) l (k + 1) = (mDo (mWri (zs N) l k) 2 l[k].1 0 l[k].2).2 by
        show wPut (mWri (zs N) l k) (l.getD k (0, 0)).1 (l.getD k (0, 0)).2 = _
        rw [show l.getD k (0, 0) = l[k] by simp [List.getD, hkl]]
        rfl)
      have E := hide (fun w2 hm => rdo_any gr N 2 l[k].1 0 l[k].2 (mWri (zs N) l k) w2 hm)
      rw [hlen] at E
      clear hlen
      generalize (mDo (mWri (zs N) l k) 2 l[k].1 0 l[k].2).1 = x at *
      generalize (mDo (mWri (zs N) l k) 2 l[k].1 0 l[k].2).2 = ws2 at *
      generalize mWri (zs N) l k = ws1 at *
      generalize l[k].1 = q0 at *
      generalize l[k].2 = q1 at *
      have hbk : (ad.add (k * 2)).block = ad.block := block_of_add ad (k * 2)
      have e2 : (ad.add (k * 2)).block ≠ gr := by omega
      clear hbk
      have hkz : (k : Int) < (n : Int) := by omega
      go_wp2_with fail
      go_region_held3 (fun w' => w'.cell? (ad.add (k * 2)) = some (.int .i64 q0) ∧ w'.cell? ⟨(ad.add (k * 2)).block, (ad.add (k * 2)).off + 1, none⟩ = some (.int .u64 q1)) (first | exact ⟨z0, z1⟩ | go_keep) ((go_at_call 28; refine (E.out _ (HRef.out.below (below_drewN (Below.refl _ _) _))).mono ?_; rintro e w6 ⟨rfl, hr6, hg6⟩; (replace z0 := keepG hg6 z0 e2); (replace z1 := keepG hg6 z1 e2)))
      go_wp2_with fail
      go_roundw
      case rel => exact ⟨k + 1, by go_num, by have := HL.out; omega, by rw [hs.out]; exact hr6, grown_trans HG.out (grown_trans (grown_below (below_drewN (Below.refl _ _) 1) _) hg6)⟩
      case measure => simp [intOf]; omega
    · obtain rfl : k = n := by have := HL.out; omega
      have hm9 := HM.out.grown HG.out (by simp; omega) (by simp; omega)
      have hx9 := BX.out.grown HG.out (by simp; omega)
      generalize mWri (zs N) l k = ws at *
      have CP := hide (copy_any gm gw s t f c0 p ws wr hm9 (by omega) (by omega))
      have HM := hide hm9
      have BX := hide hx9
      clear hm9 hx9 HG HRF
      go_wp2_with fail
      refine CP.out.mono ?_
      rintro e w7 ⟨⟨hm, hw, hc, rfl, hcp, lhm, lhw, lhc⟩, hb1⟩
      have lgm := HM.out.1.lt
      have lgw := HM.out.2.1.lt
      have lgr := Blk.lt HRef.out
      have HM := hide (HM.out.below hb1)
      have HRef := hide (HRef.out.below hb1)
      have bx := BX.out.below hb1 BX.out.lt
      have B0 := HB2.out.trans (hb1.mono HB2.out.size)
      have HB2' := hide HB2.out.size
      have HC := hide hcp
      have by_ := hcp.1
      clear hb1 BX CP HB2 hcp
      try clear mx lx
      try clear mo lo zo
      try clear my ly zy
      try have mx := fun i => bx.cell i
      try have lx := bx.lt
      try have mo := fun i => bo.cell i
      try have lo := bo.lt
      try have zo := fun i => bo.frozen i
      try have my := fun i => by_.cell i
      try have ly := by_.lt
      try have zy := fun i => by_.frozen i
      have q13 := cfg_same s t f c0 p
      have LC := hide (fun w2 => lconfig_any s t f c0 p w2)
      go_wp2_with fail
      go_region_held3 (fun w' => w'.cell? ⟨hm, 0, none⟩ = some (.int .i64 s) ∧ w'.cell? ⟨hm, 1, none⟩ = some (.int .i64 t) ∧ w'.cell? ⟨hm, 2, none⟩ = some (.int .i64 f) ∧ w'.cell? ⟨hm, 3, none⟩ = some (.int .i64 c0) ∧ w'.cell? ⟨hm, 4, none⟩ = some (.int .i64 p) ∧ w'.cell? ⟨w.heap.size, 0, none⟩ = some (.int .i64 s) ∧ w'.cell? ⟨w.heap.size, 1, none⟩ = some (.int .i64 t) ∧ w'.cell? ⟨w.heap.size, 2, none⟩ = some (.int .i64 f) ∧ w'.cell? ⟨w.heap.size, 3, none⟩ = some (.int .i64 c0) ∧ w'.cell? ⟨w.heap.size, 4, none⟩ = some (.int .i64 p)) (go_keep) ((go_at_call 34; refine (LC.out _).mono ?_; rintro e w8 ⟨rfl, hb8⟩; have b8 := (by_.drewN 1).below hb8 by_.lt; have m8 := fun i => b8.cell i; have c8 := (bx.drewN 1).below hb8 bx.lt; have n8 := fun i => c8.cell i))
      have b7 := (below_drewN (Below.refl w7.heap.size w7) 1).trans hb8
      have HM := hide (HM.out.below b7)
      have HRef := hide (HRef.out.below b7)
      have HC := hide (HC.out.below b7)
      replace B0 := B0.trans (b7.mono B0.size)
      have s8 := b7.size
      clear hb8 b8 m8 c8 n8 b7 mx my ly lx zy bx by_
      have HB := hide B0
      clear B0 q13 LC
      have WA := hide (word_any gm gw s t f c0 p 0 ws w8 HM.out)
      generalize hx0 : wGet ws 0 = x0 at *
      have HX0 := hide hx0
      clear hx0
      have WN := hide (fun (X : Int) => cwrite_any hm hw hc s t f c0 p (some ⟨w8.heap.size, 0, none⟩) 1 1 ws [(0, X)] (w8.alloc (.cells #[.int .i64 0, .int .u64 X] 55)) (HC.out.below ((Below.refl _ _).alloc (Nat.le_refl _) _)) (fun k hk => by
        obtain rfl : k = 0 := by simpa using hk
        exact ⟨by simp, by simp; omega⟩) (by rw [World.size_alloc]; exact Reads.new w8 [.int .i64 0, .int .u64 X] 55 1 2 rfl) (fun _ ad e => by injection e with e; subst e; have := HC.out.lt; show w8.heap.size ≠ hw; omega) (by omega))
      go_wp2_with fail
      refine WA.out.mono ?_
      rintro e w' ⟨rfl, rfl⟩
      go_wp2_with fail
      refine (WN.out _).mono ?_
      rintro e w9 ⟨⟨u9, rfl⟩, hc9, hg9⟩
      have G9 := grown_trans (grown_below ((Below.refl w8.heap.size w8).alloc (Nat.le_refl _) (.cells #[.int .i64 0, .int .u64 (IntKind.u64.wrap (x0 + 1))] 55)) (some hw)) hg9
      have lgm8 := HM.out.1.lt
      have lhw' : w.heap.size ≤ hw := Nat.le_trans HB2'.out lhw
      have HM := hide (HM.out.grown G9 (by simp; omega) (by simp; omega))
      have HRef := hide (HRef.out.grown G9 (by simp; omega))
      have HB := hide (below_grown HB.out G9 lhw' HB.out.size)
      have HC := hide hc9
      clear hc9 hg9 G9 WN WA
      go_wp2_with fail
      go_loopw [13, 14] (WantIn ws a b w9) (fun _ i _ => N - (intOf i).toNat)
      case atStart => exact ⟨0, none, 0, 0, rfl, by omega, rfl, by rw [wantW_zero]; rfl, by rw [wantW_zero]; exact World.ownsRow_nil _ _ _ _, Below.refl _ _⟩
      case round =>
        obtain ⟨j, A1, n1, c1, rfl, hj, rfl, hn1, hown, hb⟩ := hrel
        obtain ⟨i0, hi0, hz0, hs0, hb0⟩ := info_parts infoU64
        by_cases hlt : j < N
        · have hjz : (j : Int) < (N : Int) := by omega
          have hst : wantW ws a b (j + 1) = if a ≤ j ∧ (j : Int) < b then wantW ws a b j ++ [ws.getD j 0] else wantW ws a b j := rfl
          have HJ := hide hj
          have HN1 := hide hn1
          clear hn1
          by_cases ha : a ≤ (j : Int)
          · by_cases hb' : (j : Int) < b
            · rw [if_pos ⟨ha, hb'⟩] at hst
              have HS := hide hst
              have z := (HRef.out.below hb).at_ (j := j) (by omega)
              clear hst
              generalize ws.getD j 0 = q at *
              have hn1k : n1 ≤ 4294967296 := by
                have h1 := HN1.out
                have h2 := wantW_cut ws a b j (by omega)
                rw [h2] at h1
                simp at h1
                omega
              have hsz := hb.size
              have ho1 := hown.alloc (.cells #[.int .u64 q] 43)
              go_wp2_with (at_builtin; refine wpList_append_one rfl (.tmp 96) (.tmp 101) _ rfl w9.heap.size 43 i0 _ 1 8 Tryd.underlying41 hi0 hz0 hs0 hb0 rfl (by omega) (by omega) (.slice A1 n1 c1) n1 _ rfl ho1 wr.heap.size #[.int .u64 q] rfl (Blk.new _ _ _) rfl rfl hn1k (by simp; omega) ?_; intro A3 c3 w3 hown3 hg3 hat3)
              go_roundw
              case measure => simp [intOf]; omega
              case rel => exact ⟨j + 1, A3, n1 + 1, c3, by go_num, by have := HJ.out; omega, rfl, by rw [HS.out, List.length_append, ← HN1.out]; rfl, by rw [HS.out, ints_append]; exact hown3, below_appended (hb.alloc hb.size _) ho1 hg3 (Nat.le_refl _) (by simp; omega)⟩
            · rw [if_neg (fun h => hb' h.2)] at hst
              have HS := hide hst
              clear hst
              go_wp2_with fail
              go_roundw
              case measure => simp [intOf]; omega
              case rel => exact ⟨j + 1, A1, n1, c1, by go_num, by omega, rfl, by rw [HS.out]; exact HN1.out, by rw [HS.out]; exact hown, hb⟩
          · rw [if_neg (fun h => ha h.1)] at hst
            have HS := hide hst
            clear hst
            go_wp2_with fail
            go_roundw
            case measure => simp [intOf]; omega
            case rel => exact ⟨j + 1, A1, n1, c1, by go_num, by omega, rfl, by rw [HS.out]; exact HN1.out, by rw [HS.out]; exact hown, hb⟩
        · have hm9 := HM.out.below hb
          clear SZ MN RN HRF
          obtain rfl : j = N := by omega
          have lgr9 := Blk.lt HRef.out
          have hr9 := HRef.out.below hb
          have hc9 := HC.out.below hb
          have hB9 := HB.out.trans (hb.mono HB.out.size)
          have ew : wantW ws a b j = cutW ws a b := by
            rw [wantW_cut ws a b j (by omega)]
            unfold cutW
            rw [hlen]
          rw [ew] at hown hn1
          subst hn1
          obtain ⟨A2, c2, e2, rw1⟩ := own_reads hown
          injection e2 with e2 _ e3
          subst e2 e3
          have lw1 : (cutW ws a b).length ≤ j := by unfold cutW; simp; omega
          have eX : mWri ws [(0, IntKind.u64.wrap (x0 + 1))] 1 = ws.set 0 (IntKind.u64.wrap (x0 + 1)) := wPut_at (show 0 < ws.length by omega)
          rw [eX] at hc9
          have eC : cutW (ws.set 0 (IntKind.u64.wrap (x0 + 1))) 1 (j : Int) = ws.drop 1 := by
            unfold cutW
            rw [show (min (j : Int) ((ws.set 0 (IntKind.u64.wrap (x0 + 1))).length : Int)).toNat = j by simp; omega]
            rw [List.take_of_length_le (by simp; omega)]
            cases ws with
            | nil => rfl
            | cons q qs => rfl
          have HZ := hide (show ∀ w2, Below wr.heap.size wr w2 → w2.cell? ⟨gr, 0, none⟩ = some (.int .u64 x0) from fun w2 h2 => by
            have := (hr9.below h2).at_ (j := 0) (by omega)
            rw [this, ← HX0.out, show wGet ws 0 = ws.getD 0 0 from wGet_at (j := 0) (by omega)])
          have CW := hide (show ∀ w2 g x y n zs, Below wr.heap.size wr w2 → ((g = gm ∧ x = a ∧ y = b ∧ n = (cutW ws a b).length ∧ zs = cutW ws a b) ∨ (g = hm ∧ x = 1 ∧ y = (j : Int) ∧ n = j - 1 ∧ zs = ws.drop 1)) → Calls Tryd.prog 30 #[.pointer (some ⟨g, 0, none⟩), .int .i64 x, .int .i64 y] w2 fun e w3 => (∃ A c, e = .returned (.slice A n c) ∧ Reads w3 w3.heap.size 1 A n (ints .u64 zs)) ∧ Below w2.heap.size w2 w3 from fun w2 g x y n zs h2 h => by
            rcases h with ⟨rfl, rfl, rfl, rfl, rfl⟩ | ⟨rfl, rfl, rfl, rfl, rfl⟩
            · refine (words_any g gw s t f c0 p x y ws w2 (hm9.below h2) (by omega)).mono fun e w3 ⟨⟨u, h1, hu⟩, h3⟩ => ⟨?_, h3⟩
              obtain ⟨A, c, rfl, _, _, r⟩ := hu.sl
              exact ⟨A, c, h1, r⟩
            · refine (cwords_some g hw hc 1 j s t f c0 p 1 (j : Int) _ w2 (hc9.below h2) (by simp; omega) (by simp; omega) (by omega) (by simp; omega) (by omega)).mono fun e w3 ⟨⟨u, h1, hu⟩, h3⟩ => ⟨?_, h3⟩
              rw [eC] at hu
              obtain ⟨A, c, rfl, _, _, r⟩ := hu.sl
              have el : (ws.drop 1).length = j - 1 := by simp; omega
              rw [el] at h1 r
              exact ⟨A, c, h1, r⟩)
          have CE := hide (show ∀ w2 A B n c d zs, Below wr.heap.size wr w2 → Reads w2 w2.heap.size 1 A n (ints .u64 zs) → ((B = A1 ∧ n = (cutW ws a b).length ∧ zs = cutW ws a b) ∨ (B = some ⟨gr, 1, none⟩ ∧ n = j - 1 ∧ zs = ws.drop 1)) → Calls Tryd.prog 29 #[.slice A n c, .slice B n d] w2 fun e w3 => e = .returned (.bool true) ∧ Below w2.heap.size w2 w3 from fun w2 A B n c d zs h2 r h => by
            rcases h with ⟨rfl, rfl, rfl⟩ | ⟨rfl, rfl, rfl⟩
            · exact Words_eq A B _ c d _ w2 (by omega) r ((rw1.below h2).more h2.size)
            · refine Words_eq A _ _ c d _ w2 (by omega) r ?_
              have hz := hr9.below h2
              have h3 := (reads_words hz)
              refine ⟨by rw [ints_len]; simp; omega, fun _ => ⟨_, rfl, Blk.lt hz, fun i u hu => ?_⟩⟩
              have hi : i < j - 1 := by
                have := (List.getElem?_eq_some_iff.1 hu).1
                rw [ints_len] at this
                simp at this
                omega
              rw [Addr.add_lit, hz.at_ (by omega), ← hu, ints_get _ i (by simp; omega)]
              simp [List.getD_eq_getElem?_getD, show 1 + i < ws.length by omega]
              simp only [Nat.add_comm 1 i])
          have CM := hide (show ∀ w2 g x v, Below wr.heap.size wr w2 → ((g = gm ∧ x = 0 ∧ v = x0) ∨ (g = hm ∧ x = 0 ∧ v = IntKind.u64.wrap (x0 + 1)) ∨ (g = gm ∧ x = b ∧ v = wGet ws b)) → Calls Tryd.prog 32 #[.pointer (some ⟨g, 0, none⟩), .int .i64 x] w2 fun e w3 => e = .returned (.int .u64 v) ∧ w2 = w3 from fun w2 g x v h2 h => by
            rcases h with ⟨rfl, rfl, rfl⟩ | ⟨rfl, rfl, rfl⟩ | ⟨rfl, rfl, rfl⟩
            · rw [← HX0.out]
              exact word_any g gw s t f c0 p 0 ws w2 (hm9.below h2)
            · have := cword_any g hw hc s t f c0 p 0 _ w2 (hc9.below h2) (by simp; omega)
              have e : (ws.set 0 (IntKind.u64.wrap (x0 + 1))).getD 0 0 = IntKind.u64.wrap (x0 + 1) := by simp [List.getD, show 0 < ws.length by omega]
              rw [e] at this
              exact this
            · exact word_any g gw s t f c0 p x ws w2 (hm9.below h2))
          have CD := hide (show ∀ w2, Below wr.heap.size wr w2 → Calls Tryd.prog 28 #[.slice (some ⟨gr, 0, none⟩) j j, .agg #[.int .i64 1, .int .i64 b, .int .u64 0, .int .u64 0]] w2 fun e w3 => e = .returned (.int .u64 (wGet ws b)) ∧ (∀ w4, Below w3.heap.size w3 w4 → w4.cell? ⟨gr, 0, none⟩ = some (.int .u64 x0)) ∧ w2.grownBy w3 (some gr) from fun w2 h2 => by
            have := rdo_any gr j 1 b 0 0 ws w2 (hr9.below h2)
            rw [hlen] at this
            refine this.mono fun e w3 ⟨h1, h3, h4⟩ => ⟨h1, fun w4 hb4 => ?_, h4⟩
            have h5 := RefOk.at_ (j := 0) (RefOk.below h3 hb4) (show 0 < (mDo ws 1 b 0 0).2.length by show 0 < ws.length; omega)
            rw [show (mDo ws 1 b 0 0).2 = ws from rfl] at h5
            rw [h5, ← HX0.out, show wGet ws 0 = ws.getD 0 0 from wGet_at (j := 0) (by omega)])
          have HB9 := hide hB9
          have lgr0 : w.heap.size ≤ gr := lr'
          have j1 : (1 : Int) < (j : Int) := by omega
          have j0 : (0 : Int) < (j : Int) := by omega
          have j2 : (1 : Int) ≤ (j : Int) := by omega
          have j3 : (0 : Int) ≤ (j : Int) := by omega
          have j4 : 0 < j := by omega
          generalize (cutW ws a b).length = n9 at *
          generalize wGet ws b = xb at *
          clear hown rw1 hm9 hr9 hc9 hB9 ew eX eC HM HRef HC HB lw1
          have hbz : Below wr.heap.size wr wr.drew := below_drewN (Below.refl wr.heap.size wr) 1
          have z := HZ.out _ hbz
          go_wp2_with fail
          go_region_held3 (fun w' => w'.cell? ⟨gr, 0, none⟩ = some (.int .u64 x0)) (first | exact z | go_keep) ((first | (go_at_call 30; (with_reducible refine (CW.out _ gm a b n9 (cutW ws a b) hbz (.inl ⟨rfl, rfl, rfl, rfl, rfl⟩)).mono ?_); rintro e wA ⟨⟨A3, c3, rfl, hr3⟩, hb3⟩; have hbz := hbz.trans (hb3.mono hbz.size); have z := HZ.out _ hbz) | (go_at_call 30; (with_reducible refine (CW.out _ hm 1 (j : Int) (j - 1) (ws.drop 1) hbz (.inr ⟨rfl, rfl, rfl, rfl, rfl⟩)).mono ?_); rintro e wA ⟨⟨A3, c3, rfl, hr3⟩, hb3⟩; have hbz := hbz.trans (hb3.mono hbz.size); have z := HZ.out _ hbz) | (go_at_call 29; (with_reducible refine (CE.out _ A3 A1 n9 c3 c1 (cutW ws a b) hbz hr3 (.inl ⟨rfl, rfl, rfl⟩)).mono ?_); rintro e wB ⟨rfl, hb3⟩; have hbz := hbz.trans (hb3.mono hbz.size); have z := HZ.out _ hbz) | (go_at_call 29; (with_reducible refine (CE.out _ A3 (some ⟨gr, 1, none⟩) (j - 1) c3 (j - 1) (ws.drop 1) hbz hr3 (.inr ⟨rfl, rfl, rfl⟩)).mono ?_); rintro e wB ⟨rfl, hb3⟩; have hbz := hbz.trans (hb3.mono hbz.size); have z := HZ.out _ hbz) | (go_at_call 32; (with_reducible refine (CM.out _ gm 0 x0 hbz (.inl ⟨rfl, rfl, rfl⟩)).mono ?_); rintro e w' ⟨rfl, rfl⟩) | (go_at_call 32; (with_reducible refine (CM.out _ hm 0 (IntKind.u64.wrap (x0 + 1)) hbz (.inr (.inl ⟨rfl, rfl, rfl⟩))).mono ?_); rintro e w' ⟨rfl, rfl⟩) | (go_at_call 32; (with_reducible refine (CM.out _ gm b xb hbz (.inr (.inr ⟨rfl, rfl, rfl⟩))).mono ?_); rintro e w' ⟨rfl, rfl⟩) | (go_at_call 28; (with_reducible refine (CD.out _ hbz).mono ?_); rintro e wD ⟨rfl, hz6, hg6⟩; have z := hz6 _ (Below.refl _ _); have bd := below_grown (HB9.out.trans (hbz.mono HB9.out.size)) hg6 lgr0 (HB9.out.trans (hbz.mono HB9.out.size)).size) | (go_at_call 24; (with_reducible refine (Aw.out _ bd).mono ?_); rintro e wE ⟨rfl, hb9⟩; have z := hz6 _ hb9; have be := bd.trans (hb9.mono bd.size))))
          all_goals
            go_wp2_with fail
            go_ret
            exact ⟨rfl, be⟩
end Go.Proofs.YtpkocgcagemnbaaDoor
