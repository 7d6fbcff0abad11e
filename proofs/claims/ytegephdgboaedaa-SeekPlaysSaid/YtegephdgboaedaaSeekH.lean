/-
  SeekPlays: the walk.
-/
import Derived.Test.YtegephdgboaedaaSeekG
import Derived.Deep.RegionWith
namespace Go.Proofs.Ytegephdgboaedaa
open Go.RowKit
attribute [local go_sem] past_cell past_cell_add

def PlayIn (kind key : Int) (m : Nat) (st : Nat → Int × Int) (s t : Nat) (w : World) (i : Value) (wr : World) : Prop :=
  ∃ k : Nat, i = .int .i64 (k : Int) ∧ k ≤ m ∧ Blk wr s 26 #[.int .i64 kind, .int .i64 (st k).1, .int .i64 (st k).2, .int .u64 key]
    ∧ Blk wr t 29 #[.int .i64 kind, .int .i64 (st k).1, .int .i64 (st k).2, .int .u64 key] ∧ Below w.heap.size w wr

set_option maxHeartbeats 4000000 in
theorem SeekPlays_calls (kind n key : Int) (A : Option Addr) (m c : Nat) (l : List Int) (w : World) (hn : I64 n) (hr : Reads w w.heap.size 1 A m (ints .u64 l)) :
    Calls Try.prog 3 #[.int .i64 kind, .int .i64 n, .int .u64 key, .slice A m c] w fun r w' => r = .returned (.bool true) ∧ Below w.heap.size w w' := by
  by_cases hbig : 70 < m
  · go_enter Try.func3, Try.ntmps3
    go_wp2_with fail
    refine (awake11 _).mono ?_
    rintro e w2 ⟨rfl, hb2⟩
    go_wp2_with fail
    go_ret
    exact ⟨rfl, hb2⟩
  by_cases hbig2 : 1152921504606846976 < n
  · go_enter Try.func3, Try.ntmps3
    go_wp2_with fail
    refine (awake11 _).mono ?_
    rintro e w2 ⟨rfl, hb2⟩
    go_wp2_with fail
    go_ret
    exact ⟨rfl, hb2⟩
  have hm : m ≤ 70 := by omega
  have hn2 : n ≤ 1152921504606846976 := by omega
  clear hbig hbig2
  have Sn := hide (fun w => snew_any kind n key w hn)
  have Rn := hide (fun w => rsnew_any kind n key w hn)
  have hlen := hr.lenWord
  obtain ⟨st, hst⟩ : ∃ st : Nat → Int × Int, st = fun k => sst kind key (0, snew kind n) (l.take k) := ⟨_, rfl⟩
  have Ok := hide (show ∀ k, SOk (st k).1 (st k).2 by intro k; rw [hst]; exact sst_ok (snew_ok kind n hn))
  have Iv := hide (show ∀ k, k ≤ m → SInv kind (snew kind n) k (st k) by
    intro k hk
    rw [hst]
    refine sst_inv (snew_ok kind n hn) ?_ l k (by omega)
    by_cases c1 : kind = 1
    · exact .inl c1
    · by_cases c2 : kind = 2
      · exact .inr (.inl c2)
      · exact .inr (.inr (by unfold snew; rw [if_pos (by omega)]; exact Int.le_refl _)))
  have Tk := hide (show ∀ (k : Nat) (hk : k < l.length), st (k + 1) = (slo kind (st k).1 (st k).2 key l[k], shi kind (st k).1 (st k).2 key l[k]) by intro k hk; rw [hst]; exact sst_take kind key _ l hk)
  have Z1 := hide (show (0 : Int) = (st 0).1 by rw [hst]; rfl)
  have Z2 := hide (show snew kind n = (st 0).2 by rw [hst]; rfl)
  have En := hide (fun (k : Nat) (p : Int × Int) (h : steps n ≤ k) (hp : SInv kind (snew kind n) k p) => sinv_end (kind := kind) h hp)
  have Zn := hide (show snew kind n = 0 ∨ snew kind n = n by unfold snew; split <;> simp)
  have Ss := hide (fun w => steps_any n w hn)
  clear hst hlen
  generalize steps n = sn at *
  generalize snew kind n = h0 at *
  go_enter Try.func3, Try.ntmps3
  go_wp2_with fail
  refine (Sn.out _).mono ?_
  rintro e w1 ⟨rfl, hb1⟩
  have bs := Blk.new w1 26 #[.int .i64 kind, .int .i64 0, .int .i64 h0, .int .u64 key]
  have B1 := hb1.alloc hb1.size (.cells #[.int .i64 kind, .int .i64 0, .int .i64 h0, .int .u64 key] 26)
  go_wp2_with fail
  refine (Rn.out _).mono ?_
  rintro e w2 ⟨rfl, hb2⟩
  have bt := Blk.new w2 29 #[.int .i64 kind, .int .i64 0, .int .i64 h0, .int .u64 key]
  have bs2 := (bs.below hb2 bs.lt).alloc (.cells #[.int .i64 kind, .int .i64 0, .int .i64 h0, .int .u64 key] 29)
  have B2 := (B1.trans (hb2.mono B1.size)).alloc (B1.trans (hb2.mono B1.size)).size (.cells #[.int .i64 kind, .int .i64 0, .int .i64 h0, .int .u64 key] 29)
  have hs : w.heap.size ≤ w1.heap.size := hb1.size
  have ht : w1.heap.size < w2.heap.size := by have := hb2.size; simp only [World.size_alloc] at this; omega
  go_wp2_with fail
  go_loopw [11] (PlayIn kind key m st w1.heap.size w2.heap.size w) (fun i _ => 1000 - (intOf i).toNat)
  case atStart => exact ⟨0, rfl, by omega, by rw [← Z1.out, ← Z2.out]; exact bs2, by rw [← Z1.out, ← Z2.out]; exact bt, B2⟩
  case round =>
    obtain ⟨k, rfl, hkm, hblk, hoth, hb⟩ := hrel
    clear bs bt bs2 B1 B2
    have ok := Ok.out k
    have Ts := hide (Tk.out k)
    have iv := Iv.out k hkm
    have EK := hide (En.out k (st k))
    have c0 := fun i => hblk.cell i
    have f0 := fun i => hblk.frozen i
    have c1 := fun i => hoth.cell i
    have f1 := fun i => hoth.frozen i
    have q0 := hblk.lt
    have q1 := hoth.lt
    have W1 := hide (fun w => swant_any kind _ _ key w ok)
    have W2 := hide (fun w => rswant_any kind _ _ key w ok)
    by_cases hlt : k < m
    · obtain ⟨a, rfl, hkl, z0⟩ := hr.word hlt
      have T := hide (fun w => stook_any kind _ _ key l[k] w ok)
      have R := hide (fun w => rstook_any kind _ _ key l[k] w ok iv.1)
      have Nx := hide (Ts.out hkl)
      have Iw := hide iv
      have X := hide (show sn ≤ k → swant (st k).1 (st k).2 = -1 from fun h => if_pos (EK.out h iv))
      clear iv ok Ts EK
      generalize slo kind (st k).1 (st k).2 key l[k] = lo2 at *
      generalize shi kind (st k).1 (st k).2 key l[k] = hi2 at *
      generalize l[k] = x at *
      have Z0 := hide z0
      clear z0
      generalize swant (st k).1 (st k).2 = sw at *
      by_cases hsk : sn ≤ k
      · have hX := X.out hsk
        go_wp2_with fail
        refine wp_region_past (by kernel_rfl) (by kernel_rfl) ?_
        repeat (quiet_step ((first | (go_at_call 10; exact calls_past (W1.out _)) | (go_at_call 11; exact calls_past (W2.out _)) | (go_at_call 12; exact calls_past (sat_any _ _ _ _ _)) | (go_at_call 7; exact calls_past (awake11 _)))))
        refine wpQuiet_nil ?_
        intro _ hw'
        obtain ⟨y, hw''⟩ := hw'
        subst hw''
        have hy := past_below wr y
        have b8 := hblk.below hy hblk.lt
        have o8 := hoth.below hy hoth.lt
        have B8 := hb.trans (hy.mono hb.size)
        obtain ⟨wp8, hwp8⟩ : ∃ wp8, wp8 = past wr y := ⟨_, rfl⟩
        rw [← hwp8] at b8 o8 B8 ⊢
        clear hwp8 hy hblk hoth hb c0 f0 c1 f1 q0 q1
        clear y
        have c0 := fun i => b8.cell i
        have f0 := fun i => b8.frozen i
        have c1 := fun i => o8.cell i
        have f1 := fun i => o8.frozen i
        go_wp2_with fail
        refine (Ss.out _).mono ?_
        rintro e w9 ⟨rfl, rfl⟩
        go_wp2_with fail
        refine (W1.out _).mono ?_
        rintro e w9 ⟨rfl, hb9⟩
        have b9 := b8.below hb9 b8.lt
        have o9 := o8.below hb9 o8.lt
        have B9 := B8.trans (hb9.mono B8.size)
        clear c0 f0 c1 f1
        have c0 := fun i => b9.cell i
        have f0 := fun i => b9.frozen i
        go_wp2_with fail
        have z8 := keepCell B9 Z0.out
        go_region_with ((first | (go_at_call 14; refine (T.out _).mono ?_; rintro e wt ⟨rfl, hbt⟩; have b2 := b9.drew.below hbt b9.lt; have c2 := fun i => b2.cell i; have f2 := fun i => b2.frozen i)))
        all_goals
          have b3 := (((b2.set_ 0 (.int .i64 kind)).set_ 1 (.int .i64 lo2)).set_ 2 (.int .i64 hi2)).set_ 3 (.int .u64 key)
          have o3 := ((((o9.drew.below hbt o9.lt).far (p := ⟨w1.heap.size, 0, none⟩) (by show w2.heap.size ≠ w1.heap.size; omega) (.int .i64 kind)).far (p := ⟨w1.heap.size, 1, none⟩) (by show w2.heap.size ≠ w1.heap.size; omega) (.int .i64 lo2)).far (p := ⟨w1.heap.size, 2, none⟩) (by show w2.heap.size ≠ w1.heap.size; omega) (.int .i64 hi2)).far (p := ⟨w1.heap.size, 3, none⟩) (by show w2.heap.size ≠ w1.heap.size; omega) (.int .u64 key)
          have B3 := ((((B9.drew.trans (hbt.mono B9.drew.size)).setCell (p := ⟨w1.heap.size, 0, none⟩) (by show w.heap.size ≤ w1.heap.size; omega) (.int .i64 kind)).setCell (p := ⟨w1.heap.size, 1, none⟩) (by show w.heap.size ≤ w1.heap.size; omega) (.int .i64 lo2)).setCell (p := ⟨w1.heap.size, 2, none⟩) (by show w.heap.size ≤ w1.heap.size; omega) (.int .i64 hi2)).setCell (p := ⟨w1.heap.size, 3, none⟩) (by show w.heap.size ≤ w1.heap.size; omega) (.int .u64 key)
          simp only [List.setIfInBounds_toArray, List.set_cons_zero, List.set_cons_succ] at b3
          generalize ((((wt.setCell ⟨w1.heap.size, 0, none⟩ (.int .i64 kind)).setCell ⟨w1.heap.size, 1, none⟩ (.int .i64 lo2)).setCell ⟨w1.heap.size, 2, none⟩ (.int .i64 hi2)).setCell ⟨w1.heap.size, 3, none⟩ (.int .u64 key)) = W3 at b3 o3 B3 ⊢
          clear c2 f2 b2 hbt z8
          go_wp2_with fail
          clear c0 f0
          have c0 := fun i => o3.cell i
          have f0 := fun i => o3.frozen i
          generalize W3 = wq at *
          have o4 := o3
          have b4 := b3
          have B4 := B3
          clear b3 o3 B3
          have z8 := keepCell B4 Z0.out
          go_region_with ((first | (go_at_call 15; refine (R.out _).mono ?_; rintro e wt ⟨rfl, hbt⟩; have b2 := o4.drew.below hbt o4.lt; have c2 := fun i => b2.cell i; have f2 := fun i => b2.frozen i)))
          all_goals
            have b3 := (((b2.set_ 0 (.int .i64 kind)).set_ 1 (.int .i64 lo2)).set_ 2 (.int .i64 hi2)).set_ 3 (.int .u64 key)
            have o3 := ((((b4.drew.below hbt b4.lt).far (p := ⟨w2.heap.size, 0, none⟩) (by show w1.heap.size ≠ w2.heap.size; omega) (.int .i64 kind)).far (p := ⟨w2.heap.size, 1, none⟩) (by show w1.heap.size ≠ w2.heap.size; omega) (.int .i64 lo2)).far (p := ⟨w2.heap.size, 2, none⟩) (by show w1.heap.size ≠ w2.heap.size; omega) (.int .i64 hi2)).far (p := ⟨w2.heap.size, 3, none⟩) (by show w1.heap.size ≠ w2.heap.size; omega) (.int .u64 key)
            have B3 := ((((B4.drew.trans (hbt.mono B4.drew.size)).setCell (p := ⟨w2.heap.size, 0, none⟩) (by show w.heap.size ≤ w2.heap.size; omega) (.int .i64 kind)).setCell (p := ⟨w2.heap.size, 1, none⟩) (by show w.heap.size ≤ w2.heap.size; omega) (.int .i64 lo2)).setCell (p := ⟨w2.heap.size, 2, none⟩) (by show w.heap.size ≤ w2.heap.size; omega) (.int .i64 hi2)).setCell (p := ⟨w2.heap.size, 3, none⟩) (by show w.heap.size ≤ w2.heap.size; omega) (.int .u64 key)
            simp only [List.setIfInBounds_toArray, List.set_cons_zero, List.set_cons_succ] at b3
            generalize ((((wt.setCell ⟨w2.heap.size, 0, none⟩ (.int .i64 kind)).setCell ⟨w2.heap.size, 1, none⟩ (.int .i64 lo2)).setCell ⟨w2.heap.size, 2, none⟩ (.int .i64 hi2)).setCell ⟨w2.heap.size, 3, none⟩ (.int .u64 key)) = W3 at b3 o3 B3 ⊢
            clear c2 f2 b2 hbt z8
            go_wp2_with fail
            go_roundw
            case measure => simp [intOf]; omega
            case rel => exact ⟨k + 1, by go_num, by omega, by rw [Nx.out]; exact o3, by rw [Nx.out]; exact b3, B3⟩
      · have hX := hide hsk
        have hsk2 : (k : Int) < sn := by omega
        clear hsk
        go_wp2_with fail
        refine wp_region_past (by kernel_rfl) (by kernel_rfl) ?_
        repeat (quiet_step ((first | (go_at_call 10; exact calls_past (W1.out _)) | (go_at_call 11; exact calls_past (W2.out _)) | (go_at_call 12; exact calls_past (sat_any _ _ _ _ _)) | (go_at_call 7; exact calls_past (awake11 _)))))
        refine wpQuiet_nil ?_
        intro _ hw'
        obtain ⟨y, hw''⟩ := hw'
        subst hw''
        have hy := past_below wr y
        have b8 := hblk.below hy hblk.lt
        have o8 := hoth.below hy hoth.lt
        have B8 := hb.trans (hy.mono hb.size)
        obtain ⟨wp8, hwp8⟩ : ∃ wp8, wp8 = past wr y := ⟨_, rfl⟩
        rw [← hwp8] at b8 o8 B8 ⊢
        clear hwp8 hy hblk hoth hb c0 f0 c1 f1 q0 q1
        clear y
        have c0 := fun i => b8.cell i
        have f0 := fun i => b8.frozen i
        have c1 := fun i => o8.cell i
        have f1 := fun i => o8.frozen i
        go_wp2_with fail
        refine (Ss.out _).mono ?_
        rintro e w9 ⟨rfl, rfl⟩
        clear c1 f1
        go_wp2_with fail
        have z8 := keepCell B8 Z0.out
        go_region_with ((first | (go_at_call 14; refine (T.out _).mono ?_; rintro e wt ⟨rfl, hbt⟩; have b2 := b8.drew.below hbt b8.lt; have c2 := fun i => b2.cell i; have f2 := fun i => b2.frozen i)))
        all_goals
          have b3 := (((b2.set_ 0 (.int .i64 kind)).set_ 1 (.int .i64 lo2)).set_ 2 (.int .i64 hi2)).set_ 3 (.int .u64 key)
          have o3 := ((((o8.drew.below hbt o8.lt).far (p := ⟨w1.heap.size, 0, none⟩) (by show w2.heap.size ≠ w1.heap.size; omega) (.int .i64 kind)).far (p := ⟨w1.heap.size, 1, none⟩) (by show w2.heap.size ≠ w1.heap.size; omega) (.int .i64 lo2)).far (p := ⟨w1.heap.size, 2, none⟩) (by show w2.heap.size ≠ w1.heap.size; omega) (.int .i64 hi2)).far (p := ⟨w1.heap.size, 3, none⟩) (by show w2.heap.size ≠ w1.heap.size; omega) (.int .u64 key)
          have B3 := ((((B8.drew.trans (hbt.mono B8.drew.size)).setCell (p := ⟨w1.heap.size, 0, none⟩) (by show w.heap.size ≤ w1.heap.size; omega) (.int .i64 kind)).setCell (p := ⟨w1.heap.size, 1, none⟩) (by show w.heap.size ≤ w1.heap.size; omega) (.int .i64 lo2)).setCell (p := ⟨w1.heap.size, 2, none⟩) (by show w.heap.size ≤ w1.heap.size; omega) (.int .i64 hi2)).setCell (p := ⟨w1.heap.size, 3, none⟩) (by show w.heap.size ≤ w1.heap.size; omega) (.int .u64 key)
          simp only [List.setIfInBounds_toArray, List.set_cons_zero, List.set_cons_succ] at b3
          generalize ((((wt.setCell ⟨w1.heap.size, 0, none⟩ (.int .i64 kind)).setCell ⟨w1.heap.size, 1, none⟩ (.int .i64 lo2)).setCell ⟨w1.heap.size, 2, none⟩ (.int .i64 hi2)).setCell ⟨w1.heap.size, 3, none⟩ (.int .u64 key)) = W3 at b3 o3 B3 ⊢
          clear c2 f2 b2 hbt z8
          go_wp2_with fail
          clear c0 f0
          have c0 := fun i => o3.cell i
          have f0 := fun i => o3.frozen i
          generalize W3 = wq at *
          have o4 := o3
          have b4 := b3
          have B4 := B3
          clear b3 o3 B3
          have z8 := keepCell B4 Z0.out
          go_region_with ((first | (go_at_call 15; refine (R.out _).mono ?_; rintro e wt ⟨rfl, hbt⟩; have b2 := o4.drew.below hbt o4.lt; have c2 := fun i => b2.cell i; have f2 := fun i => b2.frozen i)))
          all_goals
            have b3 := (((b2.set_ 0 (.int .i64 kind)).set_ 1 (.int .i64 lo2)).set_ 2 (.int .i64 hi2)).set_ 3 (.int .u64 key)
            have o3 := ((((b4.drew.below hbt b4.lt).far (p := ⟨w2.heap.size, 0, none⟩) (by show w1.heap.size ≠ w2.heap.size; omega) (.int .i64 kind)).far (p := ⟨w2.heap.size, 1, none⟩) (by show w1.heap.size ≠ w2.heap.size; omega) (.int .i64 lo2)).far (p := ⟨w2.heap.size, 2, none⟩) (by show w1.heap.size ≠ w2.heap.size; omega) (.int .i64 hi2)).far (p := ⟨w2.heap.size, 3, none⟩) (by show w1.heap.size ≠ w2.heap.size; omega) (.int .u64 key)
            have B3 := ((((B4.drew.trans (hbt.mono B4.drew.size)).setCell (p := ⟨w2.heap.size, 0, none⟩) (by show w.heap.size ≤ w2.heap.size; omega) (.int .i64 kind)).setCell (p := ⟨w2.heap.size, 1, none⟩) (by show w.heap.size ≤ w2.heap.size; omega) (.int .i64 lo2)).setCell (p := ⟨w2.heap.size, 2, none⟩) (by show w.heap.size ≤ w2.heap.size; omega) (.int .i64 hi2)).setCell (p := ⟨w2.heap.size, 3, none⟩) (by show w.heap.size ≤ w2.heap.size; omega) (.int .u64 key)
            simp only [List.setIfInBounds_toArray, List.set_cons_zero, List.set_cons_succ] at b3
            generalize ((((wt.setCell ⟨w2.heap.size, 0, none⟩ (.int .i64 kind)).setCell ⟨w2.heap.size, 1, none⟩ (.int .i64 lo2)).setCell ⟨w2.heap.size, 2, none⟩ (.int .i64 hi2)).setCell ⟨w2.heap.size, 3, none⟩ (.int .u64 key)) = W3 at b3 o3 B3 ⊢
            clear c2 f2 b2 hbt z8
            go_wp2_with fail
            go_roundw
            case measure => simp [intOf]; omega
            case rel => exact ⟨k + 1, by go_num, by omega, by rw [Nx.out]; exact o3, by rw [Nx.out]; exact b3, B3⟩
    · obtain rfl : m = k := by omega
      have hp : (st m).1 = 0 ∨ (st m).1 ≠ 0 ∧ (st m).1 ≤ n := by
        obtain ⟨o1, o2, _⟩ := ok
        obtain ⟨_, i2, _⟩ := iv
        rcases Zn.out with z | z <;> omega
      clear ok iv EK Ts Ok Iv Tk Z1 Z2 En Zn hlt
      generalize swant (st m).1 (st m).2 = sw at *
      generalize (st m).1 = p at *
      generalize (st m).2 = q at *
      rcases hp with rfl | ⟨hp, hpn⟩
      · go_wp2_with fail
        refine wp_region_past (by kernel_rfl) (by kernel_rfl) ?_
        repeat (quiet_step ((first | (go_at_call 10; exact calls_past (W1.out _)) | (go_at_call 11; exact calls_past (W2.out _)) | (go_at_call 12; exact calls_past (sat_any _ _ _ _ _)) | (go_at_call 7; exact calls_past (awake11 _)))))
        refine wpQuiet_nil ?_
        intro _ hw'
        obtain ⟨y, hw''⟩ := hw'
        subst hw''
        have hy := past_below wr y
        have B8 := hb.trans (hy.mono hb.size)
        generalize past wr y = wy at *
        go_wp2_with fail
        go_ret
        exact ⟨rfl, B8⟩
      · have hp' : (p == 0) = false := by simpa using hp
        go_wp2_with fail
        refine wp_region_past (by kernel_rfl) (by kernel_rfl) ?_
        repeat (quiet_step ((first | (go_at_call 10; exact calls_past (W1.out _)) | (go_at_call 11; exact calls_past (W2.out _)) | (go_at_call 12; exact calls_past (sat_any _ _ _ _ _)) | (go_at_call 7; exact calls_past (awake11 _)))))
        refine wpQuiet_nil ?_
        intro _ hw'
        obtain ⟨y, hw''⟩ := hw'
        subst hw''
        have hy := past_below wr y
        have B8 := hb.trans (hy.mono hb.size)
        generalize past wr y = wy at *
        go_wp2_with fail
        go_ret
        exact ⟨rfl, B8⟩
end Go.Proofs.Ytegephdgboaedaa
