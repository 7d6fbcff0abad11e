/-
  The Go function MemoryPlays.
-/
import Derived.Test.YtpkocgcagemnbaaDoorMemoE
import Derived.Test.YtpkocgcagemnbaaDoorWeq
namespace Go.Proofs.YtpkocgcagemnbaaDoor
open Go.RowKit
attribute [local go_sem] past_cell past_cell_add

theorem keepG {w w' : World} {g : Nat} (hg : w.grownBy w' (some g)) {p : Addr} {v : Value} (h : w.cell? p = some v) (hne : p.block ≠ g) : w'.cell? p = some v :=
  (World.cell?_of_block (hg.block _ (World.block_lt_of_cell? w p h) (fun e => hne (by injection e)))).trans h
theorem mAll2_len (ws : List Int) (l : List (Int × Int × Int × Int)) : ∀ k, (mAll ws l k).2.length = ws.length
  | 0 => rfl
  | k + 1 => by
    show (mDo (mAll ws l k).2 _ _ _ _).2.length = _
    rw [mDo_len, mAll2_len ws l k]
theorem mAll_step {ws : List Int} {l : List (Int × Int × Int × Int)} {k : Nat} (hkl : k < l.length) : (mAll ws l (k + 1)).2 = (mDo (mAll ws l k).2 l[k].1 l[k].2.1 l[k].2.2.1 l[k].2.2.2).2 := by
  show (mDo (mAll ws l k).2 (l.getD k (0, 0, 0, 0)).1 (l.getD k (0, 0, 0, 0)).2.1 (l.getD k (0, 0, 0, 0)).2.2.1 (l.getD k (0, 0, 0, 0)).2.2.2).2 = _
  rw [show l.getD k (0, 0, 0, 0) = l[k] by simp [List.getD, hkl]]
theorem cutW_all (ws : List Int) (N : Nat) (h : ws.length = N) : cutW ws 0 N = ws := by
  unfold cutW
  rw [show (max (0 : Int) 0).toNat = 0 by omega, List.drop_zero, show (min (N : Int) (ws.length : Int)).toNat = ws.length by omega, List.take_length]

def PlayIn (ws : List Int) (l : List (Int × Int × Int × Int)) (gm gw gr : Nat) (s t f c p : Int) (w : World) (i : Value) (wr : World) : Prop :=
  ∃ k : Nat, i = .int .i64 k ∧ k ≤ l.length ∧ MemOk wr gm gw s t f c p (mAll ws l k).2 ∧ RefOk wr gr (mAll ws l k).2 ∧ Below w.heap.size w wr

set_option maxRecDepth 100000 in
set_option maxHeartbeats 1000000 in
theorem plays_big (s t f c0 p : Int) (A : Option Addr) (n c : Nat) (w : World) (hT : Tab w) (h : (200 : Int) < n ∨ ((n : Int) ≤ 200 ∧ 5000 < rSize s t f c0 p)) :
    Calls Tryd.prog 5 #[.agg #[.int .i64 s, .int .i64 t, .int .i64 f, .int .i64 c0, .int .i64 p], .slice A n c] w fun e w' => e = .returned (.bool true) ∧ Below w.heap.size w w' := by
  have SZ := hide (fun w => rsize_any s t f c0 p w)
  have Aw := hide (fun w2 (hb : Below w.heap.size w w2) => awake09 w2 (hT.below hb))
  have B0 := (Below.refl w.heap.size w).alloc (Nat.le_refl _) (.cells #[.int .i64 s, .int .i64 t, .int .i64 f, .int .i64 c0, .int .i64 p] 23)
  have HB := hide B0
  clear B0
  rcases h with h | ⟨h1, h2⟩
  · go_enter Tryd.func5, Tryd.ntmps5
    go_wp2_with fail
    refine (Aw.out _ HB.out).mono ?_
    rintro e w1 ⟨rfl, hb1⟩
    go_wp2_with fail
    go_ret
    exact ⟨rfl, HB.out.trans (hb1.mono HB.out.size)⟩
  · generalize rSize s t f c0 p = R at *
    go_enter Tryd.func5, Tryd.ntmps5
    go_wp2_with fail
    refine (SZ.out _).mono ?_
    rintro e w1 ⟨rfl, hb1⟩
    have B1 := HB.out.trans (hb1.mono HB.out.size)
    clear hb1
    go_wp2_with fail
    refine (Aw.out _ B1).mono ?_
    rintro e w2 ⟨rfl, hb1⟩
    go_wp2_with fail
    go_ret
    exact ⟨rfl, B1.trans (hb1.mono B1.size)⟩

set_option maxRecDepth 100000 in
set_option maxHeartbeats 4000000 in
theorem plays_yes (s t f c0 p : Int) (A : Option Addr) (n c N : Nat) (l : List (Int × Int × Int × Int)) (w : World) (hT : Tab w) (hc : cfgOk s t f c0 p = true) (hn : n ≤ 200) (hN : laySize s t f = N) (hN5 : N ≤ 5000) (hN1 : 1 ≤ N) (hr : Reads w w.heap.size 4 A n (rec4 l)) :
    Calls Tryd.prog 5 #[.agg #[.int .i64 s, .int .i64 t, .int .i64 f, .int .i64 c0, .int .i64 p], .slice A n c] w fun e w' => e = .returned (.bool true) ∧ Below w.heap.size w w' := by
  have eR : rSize s t f c0 p = N := by unfold rSize; rw [hc, ← hN]; rfl
  have SZ := hide (fun w => rsize_any s t f c0 p w)
  rw [eR] at SZ
  have Aw := hide (fun w2 (hb : Below w.heap.size w w2) => awake09 w2 (hT.below hb))
  have MN := hide (fun w2 (hb : Below w.heap.size w w2) => mnew_yes s t f c0 p N w2 (hT.below hb) hc hN)
  have RN := hide (fun w2 => rnew_any s t f c0 p N w2 eR (by omega))
  have HR := hide hr
  have HL := hide hr.lenAsk
  have qN : ((N : Int) == 0) = false := by rw [beq_eq_false_iff_ne]; omega
  clear hr hc hN eR
  have bx := Blk.new w 23 #[.int .i64 s, .int .i64 t, .int .i64 f, .int .i64 c0, .int .i64 p]
  have B0 := (Below.refl w.heap.size w).alloc (Nat.le_refl _) (.cells #[.int .i64 s, .int .i64 t, .int .i64 f, .int .i64 c0, .int .i64 p] 23)
  go_enter Tryd.func5, Tryd.ntmps5
  go_wp2_with fail
  refine (SZ.out _).mono ?_
  rintro e w1 ⟨rfl, hb1⟩
  try replace bx := bx.below hb1 bx.lt
  try replace bo := bo.below hb1 bo.lt
  try replace by_ := by_.below hb1 by_.lt
  replace B0 := B0.trans (hb1.mono B0.size)
  clear hb1
  try clear mx lx
  try clear mo lo zo
  try clear my ly zy
  try have mx := fun i => bx.cell i
  try have lx := bx.lt
  try have mo := fun i => bo.cell i
  try have lo := bo.lt
  try have zo := fun i => bo.frozen i
  try have my := fun i => by_.cell i
  try have ly := by_.lt
  try have zy := fun i => by_.frozen i
  go_wp2_with fail
  refine (MN.out _ B0).mono ?_
  rintro e w2 ⟨⟨gm, gw, rfl, hm, lm, lw⟩, hb1⟩
  have lm' := Nat.le_trans B0.size lm
  have lw' := Nat.le_trans B0.size lw
  replace bx := bx.below hb1 bx.lt
  replace B0 := B0.trans (hb1.mono B0.size)
  have HM := hide hm
  clear hb1 hm lm lw
  try clear mx lx
  try clear mo lo zo
  try clear my ly zy
  try have mx := fun i => bx.cell i
  try have lx := bx.lt
  try have mo := fun i => bo.cell i
  try have lo := bo.lt
  try have zo := fun i => bo.frozen i
  try have my := fun i => by_.cell i
  try have ly := by_.lt
  try have zy := fun i => by_.frozen i
  go_wp2_with fail
  refine (SZ.out _).mono ?_
  rintro e w3 ⟨rfl, hb1⟩
  replace bx := bx.below hb1 bx.lt
  have HM := hide (HM.out.below hb1)
  replace B0 := B0.trans (hb1.mono B0.size)
  clear hb1
  try clear mx lx
  try clear mo lo zo
  try clear my ly zy
  try have mx := fun i => bx.cell i
  try have lx := bx.lt
  try have mo := fun i => bo.cell i
  try have lo := bo.lt
  try have zo := fun i => bo.frozen i
  try have my := fun i => by_.cell i
  try have ly := by_.lt
  try have zy := fun i => by_.frozen i
  go_wp2_with fail
  refine (RN.out _).mono ?_
  rintro e w4 ⟨⟨gr, rfl, hrf, lr⟩, hb1⟩
  have hgm : gm < w3.heap.size := HM.out.1.lt
  have hgw : gw < w3.heap.size := HM.out.2.1.lt
  have lr' := Nat.le_trans B0.size lr
  have HM := hide (HM.out.below hb1)
  replace B0 := B0.trans (hb1.mono B0.size)
  have HRF := hide hrf
  have HB := hide B0
  clear hb1 hrf B0 bx mx lx
  go_wp2_with fail
  go_loopw [7] (PlayIn (zs N) l gm gw gr s t f c0 p w) (fun i _ => n - (intOf i).toNat)
  case atStart => exact ⟨0, rfl, by omega, HM.out, HRF.out, HB.out⟩
  case round =>
    obtain ⟨k, rfl, hk, hmem, href, hb⟩ := hrel
    have hlen : (mAll (zs N) l k).2.length = N := by rw [mAll2_len]; exact List.length_replicate
    have HMem := hide hmem
    have HRef := hide href
    have HB2 := hide hb
    clear hmem href hb
    by_cases hlt : k < n
    · obtain ⟨a, rfl, hab, hkl, z0, z1, z2, z3⟩ := (HR.out.below HB2.out).ask hlt
      have hs := hide (mAll_step (ws := zs N) hkl)
      have D := hide (fun w2 hm => do_any gm gw s t f c0 p l[k].1 l[k].2.1 l[k].2.2.1 l[k].2.2.2 (mAll (zs N) l k).2 w2 hm)
      have E := hide (fun w2 hm => rdo_any gr N l[k].1 l[k].2.1 l[k].2.2.1 l[k].2.2.2 (mAll (zs N) l k).2 w2 hm)
      rw [hlen] at E
      clear hlen
      generalize (mDo (mAll (zs N) l k).2 l[k].1 l[k].2.1 l[k].2.2.1 l[k].2.2.2).1 = x at *
      generalize (mDo (mAll (zs N) l k).2 l[k].1 l[k].2.1 l[k].2.2.1 l[k].2.2.2).2 = ws2 at *
      generalize (mAll (zs N) l k).2 = ws1 at *
      generalize l[k].1 = q0 at *
      generalize l[k].2.1 = q1 at *
      generalize l[k].2.2.1 = q2 at *
      generalize l[k].2.2.2 = q3 at *
      have hbk : (a.add (k * 4)).block = a.block := block_of_add a (k * 4)
      have e1 : (a.add (k * 4)).block ≠ gw := by omega
      have e2 : (a.add (k * 4)).block ≠ gr := by omega
      clear hbk
      have hgr : gr < wr.heap.size := Blk.lt HRef.out
      have eg : gr ≠ gw := by omega
      have eh : gr ≠ gm := by omega
      go_wp2_with fail
      go_region_held3 (fun w' => w'.cell? (a.add (k * 4)) = some (.int .i64 q0) ∧ w'.cell? ⟨(a.add (k * 4)).block, (a.add (k * 4)).off + 1, none⟩ = some (.int .i64 q1) ∧ w'.cell? ⟨(a.add (k * 4)).block, (a.add (k * 4)).off + 2, none⟩ = some (.int .u64 q2) ∧ w'.cell? ⟨(a.add (k * 4)).block, (a.add (k * 4)).off + 3, none⟩ = some (.int .u64 q3)) (first | exact ⟨z0, z1, z2, z3⟩ | go_keep) ((first | (go_at_call 27; refine (D.out _ (HMem.out.below (below_drewN (Below.refl _ _) _))).mono ?_; rintro e w5 ⟨rfl, hm5, hg5⟩; (replace z0 := keepG hg5 z0 e1); (replace z1 := keepG hg5 z1 e1); (replace z2 := keepG hg5 z2 e1); (replace z3 := keepG hg5 z3 e1)) | (go_at_call 28; refine (E.out _ (HRef.out.grown (grown_trans (grown_below (below_drewN (Below.refl _ _) _) _) hg5) (by simp; omega))).mono ?_; rintro e w6 ⟨rfl, hr6, hg6⟩; (replace z0 := keepG hg6 z0 e2); (replace z1 := keepG hg6 z1 e2); (replace z2 := keepG hg6 z2 e2); (replace z3 := keepG hg6 z3 e2))))
      have q1 := below_drewN HB2.out 1
      have q2 := below_grown q1 hg5 lw' q1.size
      have q3 := below_grown q2 hg6 lr' q2.size
      go_wp2_with fail
      go_roundw
      case rel => exact ⟨k + 1, by go_num, by have := HL.out; omega, by rw [hs.out]; exact hm5.grown hg6 (by simp; omega) (by simp; omega), by rw [hs.out]; exact hr6, q3⟩
      case measure => simp [intOf]; omega
    · obtain rfl : k = n := by have := HL.out; omega
      have hbl := HRef.out
      generalize (mAll (zs N) l k).2 = ws1 at *
      have lr9 := Blk.lt hbl
      have r1 := reads_words hbl
      have WS := hide (words_some gm gw 0 N s t f c0 p 0 N ws1 wr HMem.out (by omega) (by omega) (by omega) (by omega))
      have eqs := hide (cutW_all ws1 N hlen)
      rw [eqs.out] at WS
      have WE := hide (fun A n c d l w => Words_eq A (some ⟨gr, 0, none⟩) n c d l w)
      go_wp2_with fail
      refine WS.out.mono ?_
      rintro e w5 ⟨⟨u, rfl, hu⟩, hb5⟩
      have hsl := hu.sl
      obtain ⟨A2, c2, hu2, _, _, r2⟩ := hsl
      have r3 := r1.below hb5
      subst hu2
      rw [hlen] at r2 r3
      have r4 := r3.more hb5.size
      have b5 := HB2.out.trans (hb5.mono HB2.out.size)
      clear hu hbl r1 r3
      go_wp2_with fail
      refine (WE.out A2 N c2 N ws1 w5 (by omega) r2 r4).mono ?_
      rintro e w6 ⟨rfl, hb6⟩
      have b6 := b5.trans (hb6.mono b5.size)
      clear hb6 r2 r4
      go_wp2_with fail
      refine (Aw.out _ b6).mono ?_
      rintro e w7 ⟨rfl, hb7⟩
      go_wp2_with fail
      go_ret
      exact ⟨rfl, b6.trans (hb7.mono b6.size)⟩

theorem mDo_nil (k a o n : Int) : mDo [] k a o n = (0, []) := by
  have e1 : wGet [] a = 0 := by unfold wGet; simp
  have e2 : wPut [] a n = [] := by unfold wPut; simp
  have e3 : ¬ (k = 3 ∧ 0 ≤ a ∧ a < (([] : List Int).length : Int) ∧ wGet [] a = o) := by simp; omega
  unfold mDo
  rw [if_neg e3, e1, e2]
  split
  · rfl
  · split <;> rfl
def PlayNo (n : Nat) (gr : Nat) (w : World) (i : Value) (wr : World) : Prop :=
  ∃ k : Nat, i = .int .i64 k ∧ k ≤ n ∧ RefOk wr gr [] ∧ Below w.heap.size w wr
set_option maxRecDepth 100000 in
set_option maxHeartbeats 4000000 in
theorem plays_no (s t f c0 p : Int) (A : Option Addr) (n c : Nat) (l : List (Int × Int × Int × Int)) (w : World) (hT : Tab w) (hc : cfgOk s t f c0 p = false) (hn : n ≤ 200) (hr : Reads w w.heap.size 4 A n (rec4 l)) :
    Calls Tryd.prog 5 #[.agg #[.int .i64 s, .int .i64 t, .int .i64 f, .int .i64 c0, .int .i64 p], .slice A n c] w fun e w' => e = .returned (.bool true) ∧ Below w.heap.size w w' := by
  have eR : rSize s t f c0 p = (0 : Nat) := by unfold rSize; rw [hc]; rfl
  have SZ := hide (fun w => rsize_any s t f c0 p w)
  rw [eR] at SZ
  have Aw := hide (fun w2 (hb : Below w.heap.size w w2) => awake09 w2 (hT.below hb))
  have MN := hide (fun w2 (hb : Below w.heap.size w w2) => mnew_no s t f c0 p w2 (hT.below hb) hc)
  have RN := hide (fun w2 => rnew_any s t f c0 p 0 w2 eR (by omega))
  have WN := hide (fun w2 => words_nil 0 0 w2)
  have HR := hide hr
  have HL := hide hr.lenAsk
  clear hr hc eR
  have bx := Blk.new w 23 #[.int .i64 s, .int .i64 t, .int .i64 f, .int .i64 c0, .int .i64 p]
  have B0 := (Below.refl w.heap.size w).alloc (Nat.le_refl _) (.cells #[.int .i64 s, .int .i64 t, .int .i64 f, .int .i64 c0, .int .i64 p] 23)
  go_enter Tryd.func5, Tryd.ntmps5
  go_wp2_with fail
  refine (SZ.out _).mono ?_
  rintro e w1 ⟨rfl, hb1⟩
  try replace bx := bx.below hb1 bx.lt
  try replace bo := bo.below hb1 bo.lt
  try replace by_ := by_.below hb1 by_.lt
  replace B0 := B0.trans (hb1.mono B0.size)
  clear hb1
  try clear mx lx
  try clear mo lo zo
  try clear my ly zy
  try have mx := fun i => bx.cell i
  try have lx := bx.lt
  try have mo := fun i => bo.cell i
  try have lo := bo.lt
  try have zo := fun i => bo.frozen i
  try have my := fun i => by_.cell i
  try have ly := by_.lt
  try have zy := fun i => by_.frozen i
  go_wp2_with fail
  refine (MN.out _ B0).mono ?_
  rintro e w2 ⟨rfl, hb1⟩
  try replace bx := bx.below hb1 bx.lt
  try replace bo := bo.below hb1 bo.lt
  try replace by_ := by_.below hb1 by_.lt
  replace B0 := B0.trans (hb1.mono B0.size)
  clear hb1
  try clear mx lx
  try clear mo lo zo
  try clear my ly zy
  try have mx := fun i => bx.cell i
  try have lx := bx.lt
  try have mo := fun i => bo.cell i
  try have lo := bo.lt
  try have zo := fun i => bo.frozen i
  try have my := fun i => by_.cell i
  try have ly := by_.lt
  try have zy := fun i => by_.frozen i
  go_wp2_with fail
  refine (SZ.out _).mono ?_
  rintro e w3 ⟨rfl, hb1⟩
  replace bx := bx.below hb1 bx.lt
  replace B0 := B0.trans (hb1.mono B0.size)
  clear hb1
  try clear mx lx
  try clear mo lo zo
  try clear my ly zy
  try have mx := fun i => bx.cell i
  try have lx := bx.lt
  try have mo := fun i => bo.cell i
  try have lo := bo.lt
  try have zo := fun i => bo.frozen i
  try have my := fun i => by_.cell i
  try have ly := by_.lt
  try have zy := fun i => by_.frozen i
  go_wp2_with fail
  refine (RN.out _).mono ?_
  rintro e w4 ⟨⟨gr, rfl, hrf, lr⟩, hb1⟩
  have lr' := Nat.le_trans B0.size lr
  replace B0 := B0.trans (hb1.mono B0.size)
  have HRF := hide hrf
  have HB := hide B0
  clear hb1 hrf B0 bx mx lx
  go_wp2_with fail
  go_loopw [7] (PlayNo l.length gr w) (fun i _ => n - (intOf i).toNat)
  case atStart => exact ⟨0, rfl, by omega, HRF.out, HB.out⟩
  case round =>
    obtain ⟨k, rfl, hk, href, hb⟩ := hrel
    have HRef := hide href
    have HB2 := hide hb
    clear href hb
    by_cases hlt : k < n
    · obtain ⟨a, rfl, hab, hkl, z0, z1, z2, z3⟩ := (HR.out.below HB2.out).ask hlt
      have D := hide (fun w2 => do_none (.pointer none) l[k].1 l[k].2.1 l[k].2.2.1 l[k].2.2.2 w2 (.inl rfl))
      have E := hide (fun w2 hm => rdo_any gr 0 l[k].1 l[k].2.1 l[k].2.2.1 l[k].2.2.2 [] w2 hm)
      simp only [mDo_nil, List.length_nil] at E
      generalize l[k].1 = q0 at *
      generalize l[k].2.1 = q1 at *
      generalize l[k].2.2.1 = q2 at *
      generalize l[k].2.2.2 = q3 at *
      have hbk : (a.add (k * 4)).block = a.block := block_of_add a (k * 4)
      have e2 : (a.add (k * 4)).block ≠ gr := by omega
      have e1 : (a.add (k * 4)).block < wr.heap.size := by have := HB2.out.size; omega
      clear hbk
      have hgr : gr < wr.heap.size := Blk.lt HRef.out
      go_wp2_with fail
      go_region_held3 (fun w' => w'.cell? (a.add (k * 4)) = some (.int .i64 q0) ∧ w'.cell? ⟨(a.add (k * 4)).block, (a.add (k * 4)).off + 1, none⟩ = some (.int .i64 q1) ∧ w'.cell? ⟨(a.add (k * 4)).block, (a.add (k * 4)).off + 2, none⟩ = some (.int .u64 q2) ∧ w'.cell? ⟨(a.add (k * 4)).block, (a.add (k * 4)).off + 3, none⟩ = some (.int .u64 q3)) (first | exact ⟨z0, z1, z2, z3⟩ | go_keep) ((first | (go_at_call 27; refine (D.out _).mono ?_; rintro e w5 ⟨rfl, hb5⟩; (replace z0 := (hb5.cell (p := a.add (k * 4)) e1).trans z0); (replace z1 := (hb5.cell (p := ⟨(a.add (k * 4)).block, (a.add (k * 4)).off + 1, none⟩) e1).trans z1); (replace z2 := (hb5.cell (p := ⟨(a.add (k * 4)).block, (a.add (k * 4)).off + 2, none⟩) e1).trans z2); (replace z3 := (hb5.cell (p := ⟨(a.add (k * 4)).block, (a.add (k * 4)).off + 3, none⟩) e1).trans z3)) | (go_at_call 28; refine (E.out _ ((HRef.out.below (below_drewN (Below.refl _ _) _)).below hb5)).mono ?_; rintro e w6 ⟨rfl, hr6, hg6⟩; (replace z0 := keepG hg6 z0 e2); (replace z1 := keepG hg6 z1 e2); (replace z2 := keepG hg6 z2 e2); (replace z3 := keepG hg6 z3 e2))))
      have q1 := below_drewN HB2.out 1
      have q2 := q1.trans (hb5.mono q1.size)
      have q3 := below_grown q2 hg6 lr' q2.size
      go_wp2_with fail
      go_roundw
      case rel => exact ⟨k + 1, by go_num, by have := HL.out; omega, hr6, q3⟩
      case measure => simp [intOf]; omega
    · have WE := hide (fun w => Words_eq none (some ⟨gr, 0, none⟩) 0 0 0 [] w (by omega) ⟨rfl, fun h => absurd h (by omega)⟩ ⟨rfl, fun h => absurd h (by omega)⟩)
      go_wp2_with fail
      refine (WN.out _).mono ?_
      rintro e w5 ⟨rfl, hb5⟩
      have b5 := HB2.out.trans (hb5.mono HB2.out.size)
      go_wp2_with fail
      refine (WE.out w5).mono ?_
      rintro e w6 ⟨rfl, hb6⟩
      have b6 := b5.trans (hb6.mono b5.size)
      clear hb6
      go_wp2_with fail
      refine (Aw.out _ b6).mono ?_
      rintro e w7 ⟨rfl, hb7⟩
      go_wp2_with fail
      go_ret
      exact ⟨rfl, b6.trans (hb7.mono b6.size)⟩
end Go.Proofs.YtpkocgcagemnbaaDoor
