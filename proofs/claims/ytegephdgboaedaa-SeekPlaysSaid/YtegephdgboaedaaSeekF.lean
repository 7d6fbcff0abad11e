/-
  SeekValues: searches that were made and told alike are the same.
-/
import Derived.Test.YtegephdgboaedaaSeekC
import Derived.Test.YtegephdgboaedaaSeekD
import Derived.Deep.RegionWith
namespace Go.Proofs.Ytegephdgboaedaa
open Go.RowKit

/-- A search's ends that was told the keys l. -/
def sst (kind key : Int) (lh : Int × Int) (l : List Int) : Int × Int := l.foldl (fun p k => (slo kind p.1 p.2 key k, shi kind p.1 p.2 key k)) lh
theorem sst_ok {kind key : Int} {l : List Int} : ∀ {lh : Int × Int}, SOk lh.1 lh.2 → SOk (sst kind key lh l).1 (sst kind key lh l).2 := by
  induction l with
  | nil => exact fun h => h
  | cons k t ih => exact fun h => ih (lh := (slo kind _ _ key k, shi kind _ _ key k)) h.next
theorem sst_take (kind key : Int) (lh : Int × Int) (l : List Int) {k : Nat} (h : k < l.length) :
    sst kind key lh (l.take (k + 1)) = (slo kind (sst kind key lh (l.take k)).1 (sst kind key lh (l.take k)).2 key l[k], shi kind (sst kind key lh (l.take k)).1 (sst kind key lh (l.take k)).2 key l[k]) := by
  unfold sst
  rw [List.take_succ_eq_append_getElem h, List.foldl_append]
  rfl

def ValIn (kind key : Int) (m : Nat) (st : Nat → Int × Int) (s t : Nat) (p : Int × Int) (w : World) (i : Value) (wr : World) : Prop :=
  ∃ k : Nat, i = .int .i64 (k : Int) ∧ k ≤ m ∧ Blk wr s 26 #[.int .i64 kind, .int .i64 (st k).1, .int .i64 (st k).2, .int .u64 key]
    ∧ Blk wr t 26 #[.int .i64 kind, .int .i64 p.1, .int .i64 p.2, .int .u64 key] ∧ Below w.heap.size w wr

set_option maxHeartbeats 2000000 in
theorem SeekValues_calls (kind n key : Int) (A : Option Addr) (m c : Nat) (l : List Int) (w : World) (hn : I64 n) (hr : Reads w w.heap.size 1 A m (ints .u64 l)) (hmc : m ≤ c) :
    Calls Try.prog 6 #[.int .i64 kind, .int .i64 n, .int .u64 key, .slice A m c] w fun r w' => r = .returned (.bool true) ∧ Below w.heap.size w w' := by
  by_cases hbig : 70 < m
  · go_enter Try.func6, Try.ntmps6
    go_wp2_with fail
    refine (awake11 _).mono ?_
    rintro e w2 ⟨rfl, hb2⟩
    go_wp2_with fail
    go_ret
    exact ⟨rfl, hb2⟩
  have hm : m ≤ 70 := by omega
  clear hbig
  have Sn := hide (fun w => snew_any kind n key w hn)
  have hlen := hr.lenWord
  obtain ⟨st, hst⟩ : ∃ st : Nat → Int × Int, st = fun k => sst kind key (0, snew kind n) (l.take k) := ⟨_, rfl⟩
  have Ok := hide (show ∀ k, SOk (st k).1 (st k).2 by intro k; rw [hst]; exact sst_ok (snew_ok kind n hn))
  have Tk := hide (show ∀ (k : Nat) (hk : k < l.length), st (k + 1) = (slo kind (st k).1 (st k).2 key l[k], shi kind (st k).1 (st k).2 key l[k]) by intro k hk; rw [hst]; exact sst_take kind key _ l hk)
  have Z1 := hide (show (0 : Int) = (st 0).1 by rw [hst]; rfl)
  have Z2 := hide (show snew kind n = (st 0).2 by rw [hst]; rfl)
  clear hst hlen
  generalize snew kind n = h0 at *
  go_enter Try.func6, Try.ntmps6
  go_wp2_with fail
  refine (Sn.out _).mono ?_
  rintro e w1 ⟨rfl, hb1⟩
  have bs := Blk.new w1 26 #[.int .i64 kind, .int .i64 0, .int .i64 h0, .int .u64 key]
  have B1 := hb1.alloc hb1.size (.cells #[.int .i64 kind, .int .i64 0, .int .i64 h0, .int .u64 key] 26)
  go_wp2_with fail
  refine (Sn.out _).mono ?_
  rintro e w2 ⟨rfl, hb2⟩
  have bt := Blk.new w2 26 #[.int .i64 kind, .int .i64 0, .int .i64 h0, .int .u64 key]
  have bs2 := (bs.below hb2 bs.lt).alloc (.cells #[.int .i64 kind, .int .i64 0, .int .i64 h0, .int .u64 key] 26)
  have B2 := (B1.trans (hb2.mono B1.size)).alloc (B1.trans (hb2.mono B1.size)).size (.cells #[.int .i64 kind, .int .i64 0, .int .i64 h0, .int .u64 key] 26)
  have hs : w.heap.size ≤ w1.heap.size := hb1.size
  have ht : w1.heap.size < w2.heap.size := by have := hb2.size; simp only [World.size_alloc] at this; omega
  go_wp2_with fail
  go_loopw [11] (ValIn kind key m st w1.heap.size w2.heap.size (0, h0) w) (fun i _ => 1000 - (intOf i).toNat)
  case atStart => exact ⟨0, rfl, by omega, by rw [← Z1.out, ← Z2.out]; exact bs2, bt, B2⟩
  case round =>
    obtain ⟨k, rfl, hkm, hblk, hoth, hb⟩ := hrel
    clear bs bt bs2 B1 B2
    have ok := Ok.out k
    have Ts := hide (Tk.out k)
    have c0 := fun i => hblk.cell i
    have f0 := fun i => hblk.frozen i
    by_cases hlt : k < m
    · obtain ⟨a, rfl, hkl, z1⟩ := (hr.below hb).word hlt
      have T := hide (fun w => stook_any kind _ _ key l[k] w ok)
      have Nx := hide (Ts.out hkl)
      generalize slo kind (st k).1 (st k).2 key l[k] = lo2 at *
      generalize shi kind (st k).1 (st k).2 key l[k] = hi2 at *
      generalize l[k] = x at *
      go_wp2_with fail
      go_region_with ((first | (go_at_call 14; refine (T.out _).mono ?_; rintro e wt ⟨rfl, hbt⟩; have b2 := hblk.drew.below hbt hblk.lt; have c2 := fun i => b2.cell i; have f2 := fun i => b2.frozen i)))
      all_goals
        have b3 := (((b2.set_ 0 (.int .i64 kind)).set_ 1 (.int .i64 lo2)).set_ 2 (.int .i64 hi2)).set_ 3 (.int .u64 key)
        have o3 := ((((hoth.drew.below hbt hoth.lt).far (p := ⟨w1.heap.size, 0, none⟩) (by show w2.heap.size ≠ w1.heap.size; omega) (.int .i64 kind)).far (p := ⟨w1.heap.size, 1, none⟩) (by show w2.heap.size ≠ w1.heap.size; omega) (.int .i64 lo2)).far (p := ⟨w1.heap.size, 2, none⟩) (by show w2.heap.size ≠ w1.heap.size; omega) (.int .i64 hi2)).far (p := ⟨w1.heap.size, 3, none⟩) (by show w2.heap.size ≠ w1.heap.size; omega) (.int .u64 key)
        have B3 := (((((hb.drew).trans (hbt.mono hb.drew.size)).setCell (p := ⟨w1.heap.size, 0, none⟩) (by show w.heap.size ≤ w1.heap.size; omega) (.int .i64 kind)).setCell (p := ⟨w1.heap.size, 1, none⟩) (by show w.heap.size ≤ w1.heap.size; omega) (.int .i64 lo2)).setCell (p := ⟨w1.heap.size, 2, none⟩) (by show w.heap.size ≤ w1.heap.size; omega) (.int .i64 hi2)).setCell (p := ⟨w1.heap.size, 3, none⟩) (by show w.heap.size ≤ w1.heap.size; omega) (.int .u64 key)
        simp only [List.setIfInBounds_toArray, List.set_cons_zero, List.set_cons_succ] at b3
        have c3 := fun i => b3.cell i
        have f3 := fun i => b3.frozen i
        go_wp2_with fail
        go_roundw
        case measure => simp [intOf]; omega
        case rel => exact ⟨k + 1, by go_num, by omega, by rw [Nx.out]; exact b3, o3, B3⟩
    · obtain rfl : m = k := by omega
      have hoth0 : Blk wr w2.heap.size 26 #[.int .i64 kind, .int .i64 (st 0).1, .int .i64 (st 0).2, .int .u64 key] := by rw [← Z1.out, ← Z2.out]; exact hoth
      clear hlt Ts ok c0 f0 hoth
      generalize wr = wq at *
      go_wp2_with fail
      go_loopw [12] (ValIn kind key m st w2.heap.size w1.heap.size (st m) w) (fun i _ => 1000 - (intOf i).toNat)
      case atStart => exact ⟨0, rfl, by omega, hoth0, hblk, hb⟩
      clear hkm hblk hb
      case round =>
        obtain ⟨k, rfl, hkm, hblk, hoth, hb⟩ := hrel
        clear hoth0
        have ok := Ok.out k
        have Ts := hide (Tk.out k)
        have c0 := fun i => hblk.cell i
        have f0 := fun i => hblk.frozen i
        by_cases hlt : k < m
        · obtain ⟨a, rfl, hkl, z1⟩ := (hr.below hb).word hlt
          have T := hide (fun w => stook_any kind _ _ key l[k] w ok)
          have Nx := hide (Ts.out hkl)
          generalize slo kind (st k).1 (st k).2 key l[k] = lo2 at *
          generalize shi kind (st k).1 (st k).2 key l[k] = hi2 at *
          generalize l[k] = x at *
          go_wp2_with fail
          go_region_with ((first | (go_at_call 14; refine (T.out _).mono ?_; rintro e wt ⟨rfl, hbt⟩; have b2 := hblk.drew.below hbt hblk.lt; have c2 := fun i => b2.cell i; have f2 := fun i => b2.frozen i)))
          all_goals
            have b3 := (((b2.set_ 0 (.int .i64 kind)).set_ 1 (.int .i64 lo2)).set_ 2 (.int .i64 hi2)).set_ 3 (.int .u64 key)
            have o3 := ((((hoth.drew.below hbt hoth.lt).far (p := ⟨w2.heap.size, 0, none⟩) (by show w1.heap.size ≠ w2.heap.size; omega) (.int .i64 kind)).far (p := ⟨w2.heap.size, 1, none⟩) (by show w1.heap.size ≠ w2.heap.size; omega) (.int .i64 lo2)).far (p := ⟨w2.heap.size, 2, none⟩) (by show w1.heap.size ≠ w2.heap.size; omega) (.int .i64 hi2)).far (p := ⟨w2.heap.size, 3, none⟩) (by show w1.heap.size ≠ w2.heap.size; omega) (.int .u64 key)
            have B3 := (((((hb.drew).trans (hbt.mono hb.drew.size)).setCell (p := ⟨w2.heap.size, 0, none⟩) (by show w.heap.size ≤ w2.heap.size; omega) (.int .i64 kind)).setCell (p := ⟨w2.heap.size, 1, none⟩) (by show w.heap.size ≤ w2.heap.size; omega) (.int .i64 lo2)).setCell (p := ⟨w2.heap.size, 2, none⟩) (by show w.heap.size ≤ w2.heap.size; omega) (.int .i64 hi2)).setCell (p := ⟨w2.heap.size, 3, none⟩) (by show w.heap.size ≤ w2.heap.size; omega) (.int .u64 key)
            simp only [List.setIfInBounds_toArray, List.set_cons_zero, List.set_cons_succ] at b3
            have c3 := fun i => b3.cell i
            have f3 := fun i => b3.frozen i
            go_wp2_with fail
            go_roundw
            case measure => simp [intOf]; omega
            case rel => exact ⟨k + 1, by go_num, by omega, by rw [Nx.out]; exact b3, o3, B3⟩
        · obtain rfl : k = m := by omega
          have c1 := fun i => hoth.cell i
          have f1 := fun i => hoth.frozen i
          clear hlt Ts ok Ok Tk Z1 Z2
          generalize (st k).1 = p at *
          generalize (st k).2 = q at *
          have bz := Blk.new wr 26 #[.int .i64 0, .int .i64 0, .int .i64 0, .int .u64 0]
          have Bz := hb.alloc hb.size (.cells #[.int .i64 0, .int .i64 0, .int .i64 0, .int .u64 0] 26)
          have lt1 := hoth.lt
          have lt2 := hblk.lt
          have ne1 : w1.heap.size ≠ wr.heap.size := by omega
          have ne2 : w2.heap.size ≠ wr.heap.size := by omega
          have z0 : SOk 0 0 := ⟨by omega, by omega, by omega⟩
          go_wp2_with fail
          refine (swant_any 0 0 0 0 _ z0).mono ?_
          rintro e w3 ⟨rfl, hb3⟩
          have bz3 := bz.below hb3 bz.lt
          have B3 := Bz.trans (hb3.mono Bz.size)
          have c3 := fun i => bz3.cell i
          have f3 := fun i => bz3.frozen i
          rw [show swant 0 0 = -1 from rfl]
          go_wp2_with fail
          refine (sat_any 0 0 0 0 _).mono ?_
          rintro e w4 ⟨rfl, hb4⟩
          have bz4 := bz3.below hb4 bz3.lt
          have B4 := B3.trans (hb4.mono B3.size)
          have c4 := fun i => bz4.cell i
          have f4 := fun i => bz4.frozen i
          go_wp2_with fail
          refine (stook_any 0 0 0 0 key _ z0).mono ?_
          rintro e w5 ⟨rfl, hb5⟩
          have B5 := B4.trans (hb5.mono B4.size)
          rw [show slo 0 0 0 0 key = 0 from rfl, show shi 0 0 0 0 key = 0 from rfl]
          go_wp2_with fail
          refine (sat_any 0 0 0 0 _).mono ?_
          rintro e w6 ⟨rfl, hb6⟩
          have B6 := B5.trans (hb6.mono B5.size)
          go_wp2_with fail
          refine (awake11 _).mono ?_
          rintro e w7 ⟨rfl, hb7⟩
          go_wp2_with fail
          go_ret
          exact ⟨rfl, B6.trans (hb7.mono B6.size)⟩
end Go.Proofs.Ytegephdgboaedaa
