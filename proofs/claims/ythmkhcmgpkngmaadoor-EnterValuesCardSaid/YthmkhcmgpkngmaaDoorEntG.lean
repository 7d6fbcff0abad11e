/-
  The Go function EnterValues.
-/
import Derived.Test.YthmkhcmgpkngmaaDoorEntE
import Derived.Test.YthmkhcmgpkngmaaDoorWords
import Derived.Test.YthmkhcmgpkngmaaDoorLayH
import Derived.Deep.RegionHeld3
import Derived.Deep.RegionWith
namespace Go.Proofs.YthmkhcmgpkngmaaDoor
open Go.RowKit
attribute [local go_sem] past_cell past_cell_add

set_option maxHeartbeats 1000000 in
theorem lvdone_0 (w : World) : Calls Tryd.prog 18 #[.agg #[.int .i64 0, .int .i64 0, .int .i64 0, .int .i64 0, .int .i64 0, .int .i64 0, .int .i64 0, .int .i64 0]] w fun e w' => e = .returned (.bool true) ∧ Below w.heap.size w w' := by
  have B0 := (Below.refl w.heap.size w).alloc (Nat.le_refl _) (.cells #[.int .i64 0, .int .i64 0, .int .i64 0, .int .i64 0, .int .i64 0, .int .i64 0, .int .i64 0, .int .i64 0] 46)
  go_enter Tryd.func18, Tryd.ntmps18
  go_wp2_with fail
  go_ret
  exact ⟨rfl, B0⟩
set_option maxHeartbeats 1000000 in
theorem lvwant_0 (w : World) : Calls Tryd.prog 19 #[.agg #[.int .i64 0, .int .i64 0, .int .i64 0, .int .i64 0, .int .i64 0, .int .i64 0, .int .i64 0, .int .i64 0]] w fun e w' => e = .returned (.agg #[.int .i64 0, .int .i64 0, .int .u64 0, .int .u64 0]) ∧ Below w.heap.size w w' := by
  go_enter Tryd.func19, Tryd.ntmps19
  go_wp2_with fail
  refine bodyPost_ret (v := .agg #[.int .i64 0, .int .i64 0, .int .u64 0, .int .u64 0]) (by simp [results, Tryd.results19, go_sem]) rfl ⟨rfl, ?_⟩
  repeat (first | exact Below.refl _ _ | exact B0 | (refine Below.setCell ?_ (by first | (show w.heap.size ≤ w.heap.size; omega) | (show w.heap.size ≤ w.heap.size + 1; omega) | (show w.heap.size ≤ w.heap.size + 2; omega) | (show w.heap.size ≤ _; simp)) _) | (refine Below.alloc ?_ (by first | exact Nat.le_refl _ | (simp <;> omega)) _))
def EvIn (s' t' f' l' p' th' : Int) (m : Nat) (st : Nat → Int × Bool × Int × Int) (g h : Nat) (p : Int × Bool × Int × Int) (w : World) (i : Value) (wr : World) : Prop :=
  ∃ k : Nat, i = .int .i64 (k : Int) ∧ k ≤ m ∧ Blk wr g 30 #[.int .i64 s', .int .i64 t', .int .i64 f', .int .i64 l', .int .i64 p', .int .i64 th', .int .i64 (st k).1, .bool (st k).2.1, .int .u64 (st k).2.2.1, .int .u64 (st k).2.2.2] ∧ Blk wr h 30 #[.int .i64 s', .int .i64 t', .int .i64 f', .int .i64 l', .int .i64 p', .int .i64 th', .int .i64 (p).1, .bool (p).2.1, .int .u64 (p).2.2.1, .int .u64 (p).2.2.2] ∧ Below w.heap.size w wr
set_option maxRecDepth 100000 in
set_option maxHeartbeats 4000000 in
theorem values17 (s t f l p th s' t' f' l' p' th' s1 t1 f1 l1 p1 q0 : Int) (b0 sl : Bool) (A : Option Addr) (m c : Nat) (l0 : List Int) (w : World) (hT : Tab w) (hn : m ≤ 20) (hr : Reads w w.heap.size 1 A m (ints .u64 l0)) (hw : ∀ y ∈ l0, W64 y)
    (hok : EnOk (q0, b0, 0, 0))
    (NL : ∀ w2, Below w.heap.size w w2 → Calls Tryd.prog 11 #[.agg #[.int .i64 s, .int .i64 t, .int .i64 f, .int .i64 l, .int .i64 p]] w2 fun e w' => e = .returned (.agg #[.int .i64 s1, .int .i64 t1, .int .i64 f1, .int .i64 l1, .int .i64 p1]) ∧ Below w2.heap.size w2 w')
    (N : ∀ w2, Calls Tryd.prog 10 #[.agg #[.int .i64 s1, .int .i64 t1, .int .i64 f1, .int .i64 l1, .int .i64 p1], .int .i64 th, .bool sl] w2 fun e w' => e = .returned (.agg #[.int .i64 s', .int .i64 t', .int .i64 f', .int .i64 l', .int .i64 p', .int .i64 th', .int .i64 q0, .bool b0, .int .u64 0, .int .u64 0]) ∧ Below w2.heap.size w2 w') :
    Calls Tryd.prog 4 #[.agg #[.int .i64 s, .int .i64 t, .int .i64 f, .int .i64 l, .int .i64 p], .int .i64 th, .bool sl, .slice A m c] w fun e w' => e = .returned (.bool true) ∧ Below w.heap.size w w' := by
  have HR := hide hr
  have HW := hide hw
  have hlen := hr.lenWord
  have Aw := hide (fun w2 (hb : Below w.heap.size w w2) => awake17 w2 (hT.below hb))
  have NL' := hide NL
  have N' := hide N
  obtain ⟨st, hst⟩ : ∃ st : Nat → Int × Bool × Int × Int, st = eAll (q0, b0, 0, 0) l0 := ⟨_, rfl⟩
  have Ok := hide (show ∀ k, EnOk (st k) by intro k; rw [hst]; exact eAll_ok hok hw k)
  have Tk := hide (show ∀ (k : Nat) (hk : k < l0.length), st (k + 1) = eTook (st k) l0[k] by
    intro k hk
    rw [hst]
    show eTook _ (l0.getD k 0) = _
    rw [show l0.getD k 0 = l0[k] by simp [List.getD, hk]])
  have S0 := hide (show st 0 = (q0, b0, 0, 0) by rw [hst]; rfl)
  clear hst hlen hr hw NL N hok
  have bx := Blk.new w 23 #[.int .i64 s, .int .i64 t, .int .i64 f, .int .i64 l, .int .i64 p]
  have B0 := (Below.refl w.heap.size w).alloc (Nat.le_refl _) (.cells #[.int .i64 s, .int .i64 t, .int .i64 f, .int .i64 l, .int .i64 p] 23)
  go_enter Tryd.func4, Tryd.ntmps4
  go_wp2_with fail
  refine (NL'.out _ B0).mono ?_
  rintro e w1 ⟨rfl, hb1⟩
  try replace bx := bx.below hb1 bx.lt
  try replace bo := bo.below hb1 bo.lt
  try replace by_ := by_.below hb1 by_.lt
  replace B0 := B0.trans (hb1.mono B0.size)
  clear hb1
  try clear mx lx
  try clear mo lo zo
  try clear my ly zy
  try have mx := fun i => bx.cell i
  try have lx := bx.lt
  try have mo := fun i => bo.cell i
  try have lo := bo.lt
  try have zo := fun i => bo.frozen i
  try have my := fun i => by_.cell i
  try have ly := by_.lt
  try have zy := fun i => by_.frozen i
  go_wp2_with fail
  refine (N'.out _).mono ?_
  rintro e w2 ⟨rfl, hb1⟩
  replace B0 := B0.trans (hb1.mono B0.size)
  clear hb1 bx mx lx
  have ba := Blk.new w2 30 #[.int .i64 s', .int .i64 t', .int .i64 f', .int .i64 l', .int .i64 p', .int .i64 th', .int .i64 q0, .bool b0, .int .u64 0, .int .u64 0]
  have hga : w.heap.size ≤ w2.heap.size := B0.size
  have hne : w2.heap.size ≠ w2.heap.size + 1 := by omega
  have hne' : w2.heap.size + 1 ≠ w2.heap.size := by omega
  have hgx : w.heap.size ≤ w2.heap.size + 1 := by omega
  replace B0 := B0.alloc B0.size (.cells #[.int .i64 s', .int .i64 t', .int .i64 f', .int .i64 l', .int .i64 p', .int .i64 th', .int .i64 q0, .bool b0, .int .u64 0, .int .u64 0] 30)
  have bb := Blk.new (w2.alloc (.cells #[.int .i64 s', .int .i64 t', .int .i64 f', .int .i64 l', .int .i64 p', .int .i64 th', .int .i64 q0, .bool b0, .int .u64 0, .int .u64 0] 30)) 30 #[.int .i64 s', .int .i64 t', .int .i64 f', .int .i64 l', .int .i64 p', .int .i64 th', .int .i64 q0, .bool b0, .int .u64 0, .int .u64 0]
  rw [World.size_alloc] at bb
  replace ba := ba.alloc (.cells #[.int .i64 s', .int .i64 t', .int .i64 f', .int .i64 l', .int .i64 p', .int .i64 th', .int .i64 q0, .bool b0, .int .u64 0, .int .u64 0] 30)
  replace B0 := B0.alloc B0.size (.cells #[.int .i64 s', .int .i64 t', .int .i64 f', .int .i64 l', .int .i64 p', .int .i64 th', .int .i64 q0, .bool b0, .int .u64 0, .int .u64 0] 30)
  go_wp2_with fail
  generalize (w2.alloc (.cells #[.int .i64 s', .int .i64 t', .int .i64 f', .int .i64 l', .int .i64 p', .int .i64 th', .int .i64 q0, .bool b0, .int .u64 0, .int .u64 0] 30)).alloc (.cells #[.int .i64 s', .int .i64 t', .int .i64 f', .int .i64 l', .int .i64 p', .int .i64 th', .int .i64 q0, .bool b0, .int .u64 0, .int .u64 0] 30) = w3 at *
  generalize w2.heap.size + 1 = gx at *
  generalize w2.heap.size = ga at *
  go_loopw [11] (EvIn s' t' f' l' p' th' m st ga gx (q0, b0, 0, 0) w) (fun i _ => 1000 - (intOf i).toNat)
  case atStart => exact ⟨0, rfl, by omega, by rw [S0.out]; exact ba, bb, B0⟩
  case round =>
    obtain ⟨k, rfl, hkm, hblk, hoth, hb⟩ := hrel
    clear ba bb B0
    have c0 := fun i => hblk.cell i
    have f0 := fun i => hblk.frozen i
    by_cases hlt : k < m
    · obtain ⟨a, rfl, hkl, z1⟩ := (HR.out.below hb).word hlt
      have hg := HW.out _ (List.getElem_mem hkl)
      have T1 := hide (fun w2 => etook_any s' t' f' l' p' th' l0[k] (st k) w2 (Ok.out k) hg)
      have Nx := hide (Tk.out k hkl)
      simp only [enV] at T1
      generalize eTook (st k) l0[k] = x2 at *
      obtain ⟨q2, b2, ep2, ck2⟩ := x2
      simp only at T1
      generalize l0[k] = g at *
      go_wp2_with fail
      go_region_with ((first | (go_at_call 16; refine (T1.out _).mono ?_; rintro e wt ⟨rfl, hbt⟩; have e2 := hblk.drew.below hbt hblk.lt; have c2 := fun i => e2.cell i; have f2 := fun i => e2.frozen i)))
      all_goals
        have b3 := e2.put10 (.int .i64 s') (.int .i64 t') (.int .i64 f') (.int .i64 l') (.int .i64 p') (.int .i64 th') (.int .i64 q2) (.bool b2) (.int .u64 ep2) (.int .u64 ck2)
        have o3 := (hoth.drew.below hbt hoth.lt).off10 (g := ga) hne' (.int .i64 s') (.int .i64 t') (.int .i64 f') (.int .i64 l') (.int .i64 p') (.int .i64 th') (.int .i64 q2) (.bool b2) (.int .u64 ep2) (.int .u64 ck2)
        have B3 := below_put10 ((hb.drew).trans (hbt.mono hb.drew.size)) (g := ga) hga (.int .i64 s') (.int .i64 t') (.int .i64 f') (.int .i64 l') (.int .i64 p') (.int .i64 th') (.int .i64 q2) (.bool b2) (.int .u64 ep2) (.int .u64 ck2)
        generalize ((((((((((wt.setCell ⟨ga, 0, none⟩ (.int .i64 s')).setCell ⟨ga, 1, none⟩ (.int .i64 t')).setCell ⟨ga, 2, none⟩ (.int .i64 f')).setCell ⟨ga, 3, none⟩ (.int .i64 l')).setCell ⟨ga, 4, none⟩ (.int .i64 p')).setCell ⟨ga, 5, none⟩ (.int .i64 th')).setCell ⟨ga, 6, none⟩ (.int .i64 q2)).setCell ⟨ga, 7, none⟩ (.bool b2)).setCell ⟨ga, 8, none⟩ (.int .u64 ep2)).setCell ⟨ga, 9, none⟩ (.int .u64 ck2)) = w3 at *
        go_wp2_with fail
        go_roundw
        case measure => simp [intOf]; omega
        case rel => exact ⟨k + 1, by go_num, by omega, by rw [Nx.out]; exact b3, o3, B3⟩
    · obtain rfl : m = k := by omega
      have hoth0 : Blk wr gx 30 #[.int .i64 s', .int .i64 t', .int .i64 f', .int .i64 l', .int .i64 p', .int .i64 th', .int .i64 (st 0).1, .bool (st 0).2.1, .int .u64 (st 0).2.2.1, .int .u64 (st 0).2.2.2] := by rw [S0.out]; exact hoth
      clear hlt c0 f0 hoth
      generalize wr = wq at *
      go_wp2_with fail
      go_loopw [12] (EvIn s' t' f' l' p' th' m st gx ga (st m) w) (fun i _ => 1000 - (intOf i).toNat)
      case atStart => exact ⟨0, rfl, by omega, hoth0, hblk, hb⟩
      clear hkm hblk hb
      case round =>
        obtain ⟨k, rfl, hkm, hblk, hoth, hb⟩ := hrel
        clear hoth0
        have c0 := fun i => hblk.cell i
        have f0 := fun i => hblk.frozen i
        by_cases hlt : k < m
        · obtain ⟨a, rfl, hkl, z1⟩ := (HR.out.below hb).word hlt
          have hg := HW.out _ (List.getElem_mem hkl)
          have T1 := hide (fun w2 => etook_any s' t' f' l' p' th' l0[k] (st k) w2 (Ok.out k) hg)
          have Nx := hide (Tk.out k hkl)
          simp only [enV] at T1
          generalize eTook (st k) l0[k] = x2 at *
          obtain ⟨q2, b2, ep2, ck2⟩ := x2
          simp only at T1
          generalize l0[k] = g at *
          go_wp2_with fail
          go_region_with ((first | (go_at_call 16; refine (T1.out _).mono ?_; rintro e wt ⟨rfl, hbt⟩; have e2 := hblk.drew.below hbt hblk.lt; have c2 := fun i => e2.cell i; have f2 := fun i => e2.frozen i)))
          all_goals
            have b3 := e2.put10 (.int .i64 s') (.int .i64 t') (.int .i64 f') (.int .i64 l') (.int .i64 p') (.int .i64 th') (.int .i64 q2) (.bool b2) (.int .u64 ep2) (.int .u64 ck2)
            have o3 := (hoth.drew.below hbt hoth.lt).off10 (g := gx) hne (.int .i64 s') (.int .i64 t') (.int .i64 f') (.int .i64 l') (.int .i64 p') (.int .i64 th') (.int .i64 q2) (.bool b2) (.int .u64 ep2) (.int .u64 ck2)
            have B3 := below_put10 ((hb.drew).trans (hbt.mono hb.drew.size)) (g := gx) hgx (.int .i64 s') (.int .i64 t') (.int .i64 f') (.int .i64 l') (.int .i64 p') (.int .i64 th') (.int .i64 q2) (.bool b2) (.int .u64 ep2) (.int .u64 ck2)
            generalize ((((((((((wt.setCell ⟨gx, 0, none⟩ (.int .i64 s')).setCell ⟨gx, 1, none⟩ (.int .i64 t')).setCell ⟨gx, 2, none⟩ (.int .i64 f')).setCell ⟨gx, 3, none⟩ (.int .i64 l')).setCell ⟨gx, 4, none⟩ (.int .i64 p')).setCell ⟨gx, 5, none⟩ (.int .i64 th')).setCell ⟨gx, 6, none⟩ (.int .i64 q2)).setCell ⟨gx, 7, none⟩ (.bool b2)).setCell ⟨gx, 8, none⟩ (.int .u64 ep2)).setCell ⟨gx, 9, none⟩ (.int .u64 ck2)) = w3 at *
            go_wp2_with fail
            go_roundw
            case measure => simp [intOf]; omega
            case rel => exact ⟨k + 1, by go_num, by omega, by rw [Nx.out]; exact b3, o3, B3⟩
        · obtain rfl : k = m := by omega
          clear hlt Ok Tk S0 c0 f0
          generalize st k = x9 at *
          obtain ⟨q, b, ep, ck⟩ := x9
          simp only at hblk hoth
          have Q := en_eql s' t' f' l' p' th' q b ep ck
          have QA := ask_eql 0 0 0 0
          have bz := Blk.new wr 30 #[.int .i64 0, .int .i64 0, .int .i64 0, .int .i64 0, .int .i64 0, .int .i64 0, .int .i64 0, .bool false, .int .u64 0, .int .u64 0]
          have lo1 := hoth.lt
          have lb1 := hblk.lt
          replace hblk := hblk.alloc (.cells #[.int .i64 0, .int .i64 0, .int .i64 0, .int .i64 0, .int .i64 0, .int .i64 0, .int .i64 0, .bool false, .int .u64 0, .int .u64 0] 30)
          replace hoth := hoth.alloc (.cells #[.int .i64 0, .int .i64 0, .int .i64 0, .int .i64 0, .int .i64 0, .int .i64 0, .int .i64 0, .bool false, .int .u64 0, .int .u64 0] 30)
          replace hb := hb.alloc hb.size (.cells #[.int .i64 0, .int .i64 0, .int .i64 0, .int .i64 0, .int .i64 0, .int .i64 0, .int .i64 0, .bool false, .int .u64 0, .int .u64 0] 30)
          have bf := Blk.new (wr.alloc (.cells #[.int .i64 0, .int .i64 0, .int .i64 0, .int .i64 0, .int .i64 0, .int .i64 0, .int .i64 0, .bool false, .int .u64 0, .int .u64 0] 30)) 46 #[.int .i64 0, .int .i64 0, .int .i64 0, .int .i64 0, .int .i64 0, .int .i64 0, .int .i64 0, .int .i64 0]
          rw [World.size_alloc] at bf
          replace hblk := hblk.alloc (.cells #[.int .i64 0, .int .i64 0, .int .i64 0, .int .i64 0, .int .i64 0, .int .i64 0, .int .i64 0, .int .i64 0] 46)
          replace hoth := hoth.alloc (.cells #[.int .i64 0, .int .i64 0, .int .i64 0, .int .i64 0, .int .i64 0, .int .i64 0, .int .i64 0, .int .i64 0] 46)
          replace hb := hb.alloc hb.size (.cells #[.int .i64 0, .int .i64 0, .int .i64 0, .int .i64 0, .int .i64 0, .int .i64 0, .int .i64 0, .int .i64 0] 46)
          replace bz := bz.alloc (.cells #[.int .i64 0, .int .i64 0, .int .i64 0, .int .i64 0, .int .i64 0, .int .i64 0, .int .i64 0, .int .i64 0] 46)
          have T0 := hide (fun w2 => etook_0 0 0 0 0 0 0 false 0 0 2 w2)
          have D0 := hide (fun w2 => endone_0 0 0 0 0 0 0 false 0 0 w2)
          have W0 := hide (fun w2 => enwant_0 0 0 0 0 0 0 false 0 0 w2)
          go_wp2_with fail
          refine (T0.out _).mono ?_
          rintro e w4 ⟨rfl, hb1⟩
          replace bz := bz.below hb1 bz.lt
          replace bf := bf.below hb1 bf.lt
          replace hblk := hblk.below hb1 hblk.lt
          replace hoth := hoth.below hb1 hoth.lt
          replace hb := hb.trans (hb1.mono hb.size)
          clear hb1
          try clear cz cf cb co
          have cz := fun i => bz.cell i
          have cf := fun i => bf.cell i
          have cb := fun i => hblk.cell i
          have co := fun i => hoth.cell i
          go_wp2_with fail
          refine (D0.out _).mono ?_
          rintro e w5 ⟨rfl, hb1⟩
          replace bz := bz.below hb1 bz.lt
          replace bf := bf.below hb1 bf.lt
          replace hblk := hblk.below hb1 hblk.lt
          replace hoth := hoth.below hb1 hoth.lt
          replace hb := hb.trans (hb1.mono hb.size)
          clear hb1
          try clear cz cf cb co
          have cz := fun i => bz.cell i
          have cf := fun i => bf.cell i
          have cb := fun i => hblk.cell i
          have co := fun i => hoth.cell i
          go_wp2_with fail
          refine (lvdone_0 _).mono ?_
          rintro e w6 ⟨rfl, hb1⟩
          replace bz := bz.below hb1 bz.lt
          replace bf := bf.below hb1 bf.lt
          replace hblk := hblk.below hb1 hblk.lt
          replace hoth := hoth.below hb1 hoth.lt
          replace hb := hb.trans (hb1.mono hb.size)
          clear hb1
          try clear cz cf cb co
          have cz := fun i => bz.cell i
          have cf := fun i => bf.cell i
          have cb := fun i => hblk.cell i
          have co := fun i => hoth.cell i
          go_wp2_with fail
          refine (W0.out _).mono ?_
          rintro e w7 ⟨rfl, hb1⟩
          replace bz := bz.below hb1 bz.lt
          replace bf := bf.below hb1 bf.lt
          replace hblk := hblk.below hb1 hblk.lt
          replace hoth := hoth.below hb1 hoth.lt
          replace hb := hb.trans (hb1.mono hb.size)
          clear hb1
          try clear cz cf cb co
          have cz := fun i => bz.cell i
          have cf := fun i => bf.cell i
          have cb := fun i => hblk.cell i
          have co := fun i => hoth.cell i
          go_wp2_with fail
          refine (lvwant_0 _).mono ?_
          rintro e w8 ⟨rfl, hb1⟩
          replace bz := bz.below hb1 bz.lt
          replace bf := bf.below hb1 bf.lt
          replace hblk := hblk.below hb1 hblk.lt
          replace hoth := hoth.below hb1 hoth.lt
          replace hb := hb.trans (hb1.mono hb.size)
          clear hb1
          try clear cz cf cb co
          have cz := fun i => bz.cell i
          have cf := fun i => bf.cell i
          have cb := fun i => hblk.cell i
          have co := fun i => hoth.cell i
          go_wp2_with fail
          refine (Aw.out _ hb).mono ?_
          rintro e w9 ⟨rfl, hb9⟩
          go_wp2_with fail
          go_ret
          exact ⟨rfl, hb.trans (hb9.mono hb.size)⟩
end Go.Proofs.YthmkhcmgpkngmaaDoor
