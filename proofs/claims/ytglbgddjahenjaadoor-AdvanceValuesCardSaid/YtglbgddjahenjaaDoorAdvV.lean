/-
  The Go function AdvanceValues.
-/
import Derived.Test.YtglbgddjahenjaaDoorAdvK
import Derived.Test.YtglbgddjahenjaaDoorLayH
import Derived.Deep.RegionHeld3
import Derived.Deep.RegionWith
namespace Go.Proofs.YtglbgddjahenjaaDoor
open Go.RowKit
attribute [local go_sem] past_cell past_cell_add

def AvIn (s' t' f' l' p' own' : Int) (m : Nat) (st : Nat → Av) (g h : Nat) (p : Av) (w : World) (i : Value) (wr : World) : Prop :=
  ∃ k : Nat, i = .int .i64 (k : Int) ∧ k ≤ m ∧ Blk wr g 30 #[.int .i64 s', .int .i64 t', .int .i64 f', .int .i64 l', .int .i64 p', .int .i64 own', .int .i64 (st k).k, .int .i64 (st k).oc, .int .u64 (st k).ep, .int .i64 (st k).th, .int .u64 (st k).wd, .int .u64 ((st k).ev : Int), .int .i64 (st k).ju] ∧ Blk wr h 30 #[.int .i64 s', .int .i64 t', .int .i64 f', .int .i64 l', .int .i64 p', .int .i64 own', .int .i64 (p).k, .int .i64 (p).oc, .int .u64 (p).ep, .int .i64 (p).th, .int .u64 (p).wd, .int .u64 ((p).ev : Int), .int .i64 (p).ju] ∧ Below w.heap.size w wr
set_option maxRecDepth 100000 in
set_option maxHeartbeats 4000000 in
theorem values18 (s t f l p own s' t' f' l' p' own' s1 t1 f1 l1 p1 q0 : Int) (A : Option Addr) (m c : Nat) (l0 : List Int) (Y : Prop) (w : World) (hT : Tab w) (hn : m ≤ 100) (hr : Reads w w.heap.size 1 A m (ints .u64 l0)) (hw : ∀ y ∈ l0, W64 y)
    (hok : AvOk own' t' Y ⟨q0, 0, 0, 0, 0, 0, 0⟩) (hp : I64 p')
    (NL : ∀ w2, Below w.heap.size w w2 → Calls Tryd.prog 7 #[.agg #[.int .i64 s, .int .i64 t, .int .i64 f, .int .i64 l, .int .i64 p]] w2 fun e w' => e = .returned (.agg #[.int .i64 s1, .int .i64 t1, .int .i64 f1, .int .i64 l1, .int .i64 p1]) ∧ Below w2.heap.size w2 w')
    (N : ∀ w2, Calls Tryd.prog 6 #[.agg #[.int .i64 s1, .int .i64 t1, .int .i64 f1, .int .i64 l1, .int .i64 p1], .int .i64 own] w2 fun e w' => e = .returned (.agg #[.int .i64 s', .int .i64 t', .int .i64 f', .int .i64 l', .int .i64 p', .int .i64 own', .int .i64 q0, .int .i64 0, .int .u64 0, .int .i64 0, .int .u64 0, .int .u64 0, .int .i64 0]) ∧ Below w2.heap.size w2 w') :
    Calls Tryd.prog 3 #[.agg #[.int .i64 s, .int .i64 t, .int .i64 f, .int .i64 l, .int .i64 p], .int .i64 own, .slice A m c] w fun e w' => e = .returned (.bool true) ∧ Below w.heap.size w w' := by
  have HR := hide hr
  have HW := hide hw
  have HP := hide hp
  have Aw := hide (fun w2 (hb : Below w.heap.size w w2) => awake18 w2 (hT.below hb))
  have NL' := hide NL
  have N' := hide N
  obtain ⟨st, hst⟩ : ∃ st : Nat → Av, st = aAll own' t' p' ⟨q0, 0, 0, 0, 0, 0, 0⟩ l0 := ⟨_, rfl⟩
  have Ok := hide (show ∀ k, AvOk own' t' Y (st k) by intro k; rw [hst]; exact aAll_ok hok hw k)
  have Tk := hide (show ∀ (k : Nat) (hk : k < l0.length), st (k + 1) = aTook own' t' p' (st k) l0[k] by
    intro k hk
    rw [hst]
    show aTook _ _ _ _ (l0.getD k 0) = _
    rw [show l0.getD k 0 = l0[k] by simp [List.getD, hk]])
  have S0 := hide (show st 0 = ⟨q0, 0, 0, 0, 0, 0, 0⟩ by rw [hst]; rfl)
  clear hst hr hw NL N hok hp
  have bx := Blk.new w 23 #[.int .i64 s, .int .i64 t, .int .i64 f, .int .i64 l, .int .i64 p]
  have B0 := (Below.refl w.heap.size w).alloc (Nat.le_refl _) (.cells #[.int .i64 s, .int .i64 t, .int .i64 f, .int .i64 l, .int .i64 p] 23)
  go_enter Tryd.func3, Tryd.ntmps3
  go_wp2_with fail
  refine (NL'.out _ B0).mono ?_
  rintro e w1 ⟨rfl, hb1⟩
  try replace bx := bx.below hb1 bx.lt
  try replace bo := bo.below hb1 bo.lt
  try replace by_ := by_.below hb1 by_.lt
  replace B0 := B0.trans (hb1.mono B0.size)
  clear hb1
  try clear mx lx
  try clear mo lo zo
  try clear my ly zy
  try have mx := fun i => bx.cell i
  try have lx := bx.lt
  try have mo := fun i => bo.cell i
  try have lo := bo.lt
  try have zo := fun i => bo.frozen i
  try have my := fun i => by_.cell i
  try have ly := by_.lt
  try have zy := fun i => by_.frozen i
  go_wp2_with fail
  refine (N'.out _).mono ?_
  rintro e w2 ⟨rfl, hb1⟩
  replace B0 := B0.trans (hb1.mono B0.size)
  clear hb1 bx mx lx
  have ba := Blk.new w2 30 #[.int .i64 s', .int .i64 t', .int .i64 f', .int .i64 l', .int .i64 p', .int .i64 own', .int .i64 q0, .int .i64 0, .int .u64 0, .int .i64 0, .int .u64 0, .int .u64 0, .int .i64 0]
  have hga : w.heap.size ≤ w2.heap.size := B0.size
  have hne : w2.heap.size ≠ w2.heap.size + 1 := by omega
  have hne' : w2.heap.size + 1 ≠ w2.heap.size := by omega
  have hgx : w.heap.size ≤ w2.heap.size + 1 := by omega
  replace B0 := B0.alloc B0.size (.cells #[.int .i64 s', .int .i64 t', .int .i64 f', .int .i64 l', .int .i64 p', .int .i64 own', .int .i64 q0, .int .i64 0, .int .u64 0, .int .i64 0, .int .u64 0, .int .u64 0, .int .i64 0] 30)
  have bb := Blk.new (w2.alloc (.cells #[.int .i64 s', .int .i64 t', .int .i64 f', .int .i64 l', .int .i64 p', .int .i64 own', .int .i64 q0, .int .i64 0, .int .u64 0, .int .i64 0, .int .u64 0, .int .u64 0, .int .i64 0] 30)) 30 #[.int .i64 s', .int .i64 t', .int .i64 f', .int .i64 l', .int .i64 p', .int .i64 own', .int .i64 q0, .int .i64 0, .int .u64 0, .int .i64 0, .int .u64 0, .int .u64 0, .int .i64 0]
  rw [World.size_alloc] at bb
  replace ba := ba.alloc (.cells #[.int .i64 s', .int .i64 t', .int .i64 f', .int .i64 l', .int .i64 p', .int .i64 own', .int .i64 q0, .int .i64 0, .int .u64 0, .int .i64 0, .int .u64 0, .int .u64 0, .int .i64 0] 30)
  replace B0 := B0.alloc B0.size (.cells #[.int .i64 s', .int .i64 t', .int .i64 f', .int .i64 l', .int .i64 p', .int .i64 own', .int .i64 q0, .int .i64 0, .int .u64 0, .int .i64 0, .int .u64 0, .int .u64 0, .int .i64 0] 30)
  go_wp2_with fail
  generalize (w2.alloc (.cells #[.int .i64 s', .int .i64 t', .int .i64 f', .int .i64 l', .int .i64 p', .int .i64 own', .int .i64 q0, .int .i64 0, .int .u64 0, .int .i64 0, .int .u64 0, .int .u64 0, .int .i64 0] 30)).alloc (.cells #[.int .i64 s', .int .i64 t', .int .i64 f', .int .i64 l', .int .i64 p', .int .i64 own', .int .i64 q0, .int .i64 0, .int .u64 0, .int .i64 0, .int .u64 0, .int .u64 0, .int .i64 0] 30) = w3 at *
  generalize w2.heap.size + 1 = gx at *
  generalize w2.heap.size = ga at *
  go_loopw [9] (AvIn s' t' f' l' p' own' m st ga gx ⟨q0, 0, 0, 0, 0, 0, 0⟩ w) (fun i _ => 1000 - (intOf i).toNat)
  case atStart => exact ⟨0, rfl, by omega, by rw [S0.out]; exact ba, bb, B0⟩
  case round =>
    obtain ⟨k, rfl, hkm, hblk, hoth, hb⟩ := hrel
    clear ba bb B0
    have c0 := fun i => hblk.cell i
    have f0 := fun i => hblk.frozen i
    by_cases hlt : k < m
    · obtain ⟨a, rfl, hkl, z1⟩ := (HR.out.below hb).word hlt
      have hg := HW.out _ (List.getElem_mem hkl)
      have T1 := hide (fun w2 => atook_any s' t' f' l' p' own' l0[k] (st k) Y w2 (Ok.out k) HP.out hg)
      have Nx := hide (Tk.out k hkl)
      simp only [avV] at T1
      generalize aTook own' t' p' (st k) l0[k] = x2 at *
      obtain ⟨q2, oc2, ep2, th2, wd2, ev2, ju2⟩ := x2
      simp only at T1
      generalize l0[k] = g at *
      go_wp2_with fail
      go_region_with ((first | (go_at_call 8; refine (T1.out _).mono ?_; rintro e wt ⟨rfl, hbt⟩; have e2 := hblk.drew.below hbt hblk.lt; have c2 := fun i => e2.cell i; have f2 := fun i => e2.frozen i)))
      all_goals
        have b3 := e2.put13 (.int .i64 s') (.int .i64 t') (.int .i64 f') (.int .i64 l') (.int .i64 p') (.int .i64 own') (.int .i64 q2) (.int .i64 oc2) (.int .u64 ep2) (.int .i64 th2) (.int .u64 wd2) (.int .u64 (ev2 : Int)) (.int .i64 ju2)
        have o3 := (hoth.drew.below hbt hoth.lt).off13 (g := ga) hne' (.int .i64 s') (.int .i64 t') (.int .i64 f') (.int .i64 l') (.int .i64 p') (.int .i64 own') (.int .i64 q2) (.int .i64 oc2) (.int .u64 ep2) (.int .i64 th2) (.int .u64 wd2) (.int .u64 (ev2 : Int)) (.int .i64 ju2)
        have B3 := below_put13 ((hb.drew).trans (hbt.mono hb.drew.size)) (g := ga) hga (.int .i64 s') (.int .i64 t') (.int .i64 f') (.int .i64 l') (.int .i64 p') (.int .i64 own') (.int .i64 q2) (.int .i64 oc2) (.int .u64 ep2) (.int .i64 th2) (.int .u64 wd2) (.int .u64 (ev2 : Int)) (.int .i64 ju2)
        generalize (((((((((((((wt.setCell ⟨ga, 0, none⟩ (.int .i64 s')).setCell ⟨ga, 1, none⟩ (.int .i64 t')).setCell ⟨ga, 2, none⟩ (.int .i64 f')).setCell ⟨ga, 3, none⟩ (.int .i64 l')).setCell ⟨ga, 4, none⟩ (.int .i64 p')).setCell ⟨ga, 5, none⟩ (.int .i64 own')).setCell ⟨ga, 6, none⟩ (.int .i64 q2)).setCell ⟨ga, 7, none⟩ (.int .i64 oc2)).setCell ⟨ga, 8, none⟩ (.int .u64 ep2)).setCell ⟨ga, 9, none⟩ (.int .i64 th2)).setCell ⟨ga, 10, none⟩ (.int .u64 wd2)).setCell ⟨ga, 11, none⟩ (.int .u64 (ev2 : Int))).setCell ⟨ga, 12, none⟩ (.int .i64 ju2)) = w3 at *
        go_wp2_with fail
        go_roundw
        case measure => simp [intOf]; omega
        case rel => exact ⟨k + 1, by go_num, by omega, by rw [Nx.out]; exact b3, o3, B3⟩
    · obtain rfl : m = k := by omega
      have hoth0 : Blk wr gx 30 #[.int .i64 s', .int .i64 t', .int .i64 f', .int .i64 l', .int .i64 p', .int .i64 own', .int .i64 (st 0).k, .int .i64 (st 0).oc, .int .u64 (st 0).ep, .int .i64 (st 0).th, .int .u64 (st 0).wd, .int .u64 ((st 0).ev : Int), .int .i64 (st 0).ju] := by rw [S0.out]; exact hoth
      clear hlt c0 f0 hoth
      generalize wr = wq at *
      go_wp2_with fail
      go_loopw [10] (AvIn s' t' f' l' p' own' m st gx ga (st m) w) (fun i _ => 1000 - (intOf i).toNat)
      case atStart => exact ⟨0, rfl, by omega, hoth0, hblk, hb⟩
      clear hkm hblk hb
      case round =>
        obtain ⟨k, rfl, hkm, hblk, hoth, hb⟩ := hrel
        clear hoth0
        have c0 := fun i => hblk.cell i
        have f0 := fun i => hblk.frozen i
        by_cases hlt : k < m
        · obtain ⟨a, rfl, hkl, z1⟩ := (HR.out.below hb).word hlt
          have hg := HW.out _ (List.getElem_mem hkl)
          have T1 := hide (fun w2 => atook_any s' t' f' l' p' own' l0[k] (st k) Y w2 (Ok.out k) HP.out hg)
          have Nx := hide (Tk.out k hkl)
          simp only [avV] at T1
          generalize aTook own' t' p' (st k) l0[k] = x2 at *
          obtain ⟨q2, oc2, ep2, th2, wd2, ev2, ju2⟩ := x2
          simp only at T1
          generalize l0[k] = g at *
          go_wp2_with fail
          go_region_with ((first | (go_at_call 8; refine (T1.out _).mono ?_; rintro e wt ⟨rfl, hbt⟩; have e2 := hblk.drew.below hbt hblk.lt; have c2 := fun i => e2.cell i; have f2 := fun i => e2.frozen i)))
          all_goals
            have b3 := e2.put13 (.int .i64 s') (.int .i64 t') (.int .i64 f') (.int .i64 l') (.int .i64 p') (.int .i64 own') (.int .i64 q2) (.int .i64 oc2) (.int .u64 ep2) (.int .i64 th2) (.int .u64 wd2) (.int .u64 (ev2 : Int)) (.int .i64 ju2)
            have o3 := (hoth.drew.below hbt hoth.lt).off13 (g := gx) hne (.int .i64 s') (.int .i64 t') (.int .i64 f') (.int .i64 l') (.int .i64 p') (.int .i64 own') (.int .i64 q2) (.int .i64 oc2) (.int .u64 ep2) (.int .i64 th2) (.int .u64 wd2) (.int .u64 (ev2 : Int)) (.int .i64 ju2)
            have B3 := below_put13 ((hb.drew).trans (hbt.mono hb.drew.size)) (g := gx) hgx (.int .i64 s') (.int .i64 t') (.int .i64 f') (.int .i64 l') (.int .i64 p') (.int .i64 own') (.int .i64 q2) (.int .i64 oc2) (.int .u64 ep2) (.int .i64 th2) (.int .u64 wd2) (.int .u64 (ev2 : Int)) (.int .i64 ju2)
            generalize (((((((((((((wt.setCell ⟨gx, 0, none⟩ (.int .i64 s')).setCell ⟨gx, 1, none⟩ (.int .i64 t')).setCell ⟨gx, 2, none⟩ (.int .i64 f')).setCell ⟨gx, 3, none⟩ (.int .i64 l')).setCell ⟨gx, 4, none⟩ (.int .i64 p')).setCell ⟨gx, 5, none⟩ (.int .i64 own')).setCell ⟨gx, 6, none⟩ (.int .i64 q2)).setCell ⟨gx, 7, none⟩ (.int .i64 oc2)).setCell ⟨gx, 8, none⟩ (.int .u64 ep2)).setCell ⟨gx, 9, none⟩ (.int .i64 th2)).setCell ⟨gx, 10, none⟩ (.int .u64 wd2)).setCell ⟨gx, 11, none⟩ (.int .u64 (ev2 : Int))).setCell ⟨gx, 12, none⟩ (.int .i64 ju2)) = w3 at *
            go_wp2_with fail
            go_roundw
            case measure => simp [intOf]; omega
            case rel => exact ⟨k + 1, by go_num, by omega, by rw [Nx.out]; exact b3, o3, B3⟩
        · obtain rfl : k = m := by omega
          clear hlt Ok Tk S0 c0 f0
          generalize st k = x9 at *
          obtain ⟨k9, oc, ep, th, wd, ev, ju⟩ := x9
          simp only at hblk hoth
          have Q := adv_eql s' t' f' l' p' own' oc ep th wd (ev : Int) ju k9
          have QA := ask_eql 0 0 0 0
          have bz := Blk.new wr 30 #[.int .i64 0, .int .i64 0, .int .i64 0, .int .i64 0, .int .i64 0, .int .i64 0, .int .i64 0, .int .i64 0, .int .u64 0, .int .i64 0, .int .u64 0, .int .u64 0, .int .i64 0]
          have lo1 := hoth.lt
          have lb1 := hblk.lt
          replace hblk := hblk.alloc (.cells #[.int .i64 0, .int .i64 0, .int .i64 0, .int .i64 0, .int .i64 0, .int .i64 0, .int .i64 0, .int .i64 0, .int .u64 0, .int .i64 0, .int .u64 0, .int .u64 0, .int .i64 0] 30)
          replace hoth := hoth.alloc (.cells #[.int .i64 0, .int .i64 0, .int .i64 0, .int .i64 0, .int .i64 0, .int .i64 0, .int .i64 0, .int .i64 0, .int .u64 0, .int .i64 0, .int .u64 0, .int .u64 0, .int .i64 0] 30)
          replace hb := hb.alloc hb.size (.cells #[.int .i64 0, .int .i64 0, .int .i64 0, .int .i64 0, .int .i64 0, .int .i64 0, .int .i64 0, .int .i64 0, .int .u64 0, .int .i64 0, .int .u64 0, .int .u64 0, .int .i64 0] 30)
          have T0 := hide (fun w2 => atook_0 0 0 0 0 0 0 0 0 0 0 0 0 1 w2)
          have D0 := hide (fun w2 => adone_0 0 0 0 0 0 0 0 0 0 0 0 0 w2)
          rw [show max (0 : Int) 1 = 1 from rfl] at D0
          have W0 := hide (fun w2 => awant_0 0 0 0 0 0 0 0 0 0 0 0 0 w2)
          have J0 := hide (fun w2 => ajust_any 0 0 0 0 0 0 0 0 0 0 0 0 0 w2 (by omega))
          rw [show (0 : Int) - 1 = -1 from rfl] at J0
          go_wp2_with fail
          refine (T0.out _).mono ?_
          rintro e w4 ⟨rfl, hb1⟩
          replace bz := bz.below hb1 bz.lt
          replace hblk := hblk.below hb1 hblk.lt
          replace hoth := hoth.below hb1 hoth.lt
          replace hb := hb.trans (hb1.mono hb.size)
          clear hb1
          try clear cz cb co
          have cz := fun i => bz.cell i
          have cb := fun i => hblk.cell i
          have co := fun i => hoth.cell i
          go_wp2_with fail
          refine (D0.out _).mono ?_
          rintro e w5 ⟨rfl, hb1⟩
          replace bz := bz.below hb1 bz.lt
          replace hblk := hblk.below hb1 hblk.lt
          replace hoth := hoth.below hb1 hoth.lt
          replace hb := hb.trans (hb1.mono hb.size)
          clear hb1
          try clear cz cb co
          have cz := fun i => bz.cell i
          have cb := fun i => hblk.cell i
          have co := fun i => hoth.cell i
          go_wp2_with fail
          refine (W0.out _).mono ?_
          rintro e w7 ⟨rfl, hb1⟩
          replace bz := bz.below hb1 bz.lt
          replace hblk := hblk.below hb1 hblk.lt
          replace hoth := hoth.below hb1 hoth.lt
          replace hb := hb.trans (hb1.mono hb.size)
          clear hb1
          try clear cz cb co
          have cz := fun i => bz.cell i
          have cb := fun i => hblk.cell i
          have co := fun i => hoth.cell i
          go_wp2_with fail
          refine (J0.out _).mono ?_
          rintro e w8 ⟨rfl, hb1⟩
          replace bz := bz.below hb1 bz.lt
          replace hblk := hblk.below hb1 hblk.lt
          replace hoth := hoth.below hb1 hoth.lt
          replace hb := hb.trans (hb1.mono hb.size)
          clear hb1
          try clear cz cb co
          have cz := fun i => bz.cell i
          have cb := fun i => hblk.cell i
          have co := fun i => hoth.cell i
          go_wp2_with fail
          refine (Aw.out _ hb).mono ?_
          rintro e w9 ⟨rfl, hb9⟩
          go_wp2_with fail
          go_ret
          exact ⟨rfl, hb.trans (hb9.mono hb.size)⟩
end Go.Proofs.YtglbgddjahenjaaDoor
