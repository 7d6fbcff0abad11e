/-
  The law LimboParts: its Go function hands back true.
-/
import Derived.Test.YtenoekfcffkpeaaLimboR
import Derived.Test.YtenoekfcffkpeaaPast
import Derived.Deep.RegionHeld3
namespace Go.Proofs.Ytenoekfcffkpeaa
open Go.RowKit

attribute [local go_sem] past_cell past_cell_add

def PartsIn (n : Nat) (w : World) (i : Value) (wr : World) : Prop := ∃ (k : Nat), i = .int .i64 k ∧ k ≤ n ∧ Below w.heap.size w wr

set_option maxHeartbeats 1000000 in
theorem LimboParts_calls (A : Option Addr) (n c : Nat) (l : List (Int × Int)) (ep sl a0 a1 a2 a3 a4 : Int) (w : World) (hn : n ≤ maxLen) (hr : Reads w w.heap.size 2 A n (rec2 l)) (hw : ∀ r ∈ l, W64 r.1 ∧ W64 r.2) (hp : W64 ep) :
    Calls Try.prog 6 #[.slice A n c, .int .u64 ep, .int .i64 sl, .agg #[.int .i64 a0, .int .i64 a1, .int .i64 a2, .int .i64 a3, .int .i64 a4]] w fun r w' => r = .returned (.bool true) ∧ Below w.heap.size w w' := by
  unfold maxLen at hn
  by_cases h1 : 100 < n
  · go_enter Try.func6, Try.ntmps6
    go_wp2_with fail
    refine (awake_any _).mono ?_
    rintro e w5 ⟨rfl, hb5⟩
    go_wp2_with fail
    go_ret
    exact ⟨rfl, ((Below.refl _ _).alloc (Nat.le_refl _) _).trans (hb5.mono (by simp))⟩
  have h1' : n ≤ 100 := by omega
  clear h1 hn
  obtain ⟨wb, hwb⟩ : ∃ wb, wb = w.alloc (.cells #[.int .i64 a0, .int .i64 a1, .int .i64 a2, .int .i64 a3, .int .i64 a4] 39) := ⟨_, rfl⟩
  have hrb : Reads wb wb.heap.size 2 A n (rec2 l) := by rw [hwb]; exact (hr.alloc (Nat.le_refl _) _).more (by simp)
  have hbb : Below w.heap.size w wb := by rw [hwb]; exact (Below.refl _ _).alloc (Nat.le_refl _) _
  have hblk : Blk wb w.heap.size 39 #[.int .i64 a0, .int .i64 a1, .int .i64 a2, .int .i64 a3, .int .i64 a4] := by rw [hwb]; exact Blk.new _ _ _
  have F1 := hide (show l.filter (fun r => ripeB r.2 ep == true) = l.filter (fun r => ripeB r.2 ep) by simp)
  have F2 := hide (show l.filter (fun r => ripeB r.2 ep == false) = l.filter (fun r => !ripeB r.2 ep) by simp)
  have HWB := hide hwb
  clear hwb
  have hlen := hr.lenPair
  have L1 := hide (show (l.filter (fun r => ripeB r.2 ep)).length ≤ 1000 by have := List.length_filter_le (fun r => ripeB r.2 ep) l; omega)
  have L2 := hide (show (l.filter fun r => !ripeB r.2 ep).length ≤ 1000 by have := List.length_filter_le (fun r => !ripeB r.2 ep) l; omega)
  have L3 := hide (show (l.filter fun r => !(r.1 % 65536 == sl)).length ≤ 1000 by have := List.length_filter_le (fun r => !(r.1 % 65536 == sl)) l; omega)
  clear hlen
  go_enter Try.func6, Try.ntmps6
  go_wp2_with fail
  rw [← HWB.out]
  refine (Part_any A n c l ep wb (by omega) hrb hw hp).mono ?_
  rintro e w1 ⟨⟨A1, n1, c1, A2, n2, c2, rfl, e1, e2, r1, r2⟩, hb1⟩
  subst e1 e2
  go_wp2_with fail
  refine (Handles_any A n c l w1 (by omega) ((hrb.below hb1).more hb1.size)).mono ?_
  rintro e w2 ⟨⟨A3, c3, rfl, r3⟩, hb2⟩
  have B2 := hb1.trans (hb2.mono hb1.size)
  go_wp2_with fail
  go_loopw [12] (PartsIn n w2) (fun i _ => n - (intOf i).toNat)
  case atStart => exact ⟨0, rfl, by omega, Below.refl _ _⟩
  case round =>
    obtain ⟨k, rfl, hk, hb⟩ := hrel
    have B3 := B2.trans (hb.mono B2.size)
    by_cases hlt : k < n
    · obtain ⟨b, rfl, hkl, z1⟩ := (r3.below hb).word hlt
      obtain ⟨a, rfl, hkl2, z2, z3⟩ := (hrb.below B3).pair hlt
      have e0 : (l.map (·.1))[k] = l[k].1 := by simp
      rw [e0] at z1
      have hx := hw l[k] (List.getElem_mem hkl2)
      clear e0
      generalize l[k] = x at *
      obtain ⟨h0, e0⟩ := x
      simp only at z1 z2 z3 hx
      have q1 := World.block_lt_of_cell? wr _ z1
      have q2 := World.block_lt_of_cell? wr _ z2
      have q3 := q1
      have q4 := q2
      rw [block_of_add] at q3 q4
      go_wp2_with fail
      refine wp_region_past (by kernel_rfl) (by kernel_rfl) ?_
      repeat (quiet_step ((first | (go_at_call 10; exact calls_past (Ripe_any _ _ _ _ hx.2 hp)) | (go_at_call 16; exact calls_past (RRipe_any _ _ _ _ hx.2 hp)))))
      refine wpQuiet_nil ?_
      intro _ hw'
      obtain ⟨y, hw''⟩ := hw'
      subst hw''
      have hy := past_below wr y
      generalize past wr y = wy at *
      go_wp2_with fail
      go_roundw
      case rel => exact ⟨k + 1, by go_num, by omega, hb.trans (hy.mono hb.size)⟩
      case measure => simp [intOf]; omega
    · clear r3
      have r1' := ((r1.below (hb2.trans (hb.mono hb2.size))).more (B' := wr.heap.size) (by have := hb2.size; have := hb.size; omega))
      have r2' := ((r2.below (hb2.trans (hb.mono hb2.size))).more (B' := wr.heap.size) (by have := hb2.size; have := hb.size; omega))
      have hl' := ((hrb.below B3).more (B' := wr.heap.size) B3.size)
      have hcfg := hblk.below B3 hblk.lt
      have s0 := hcfg.cell 0
      have s1 := hcfg.cell 1
      have s2 := hcfg.cell 2
      have s3 := hcfg.cell 3
      have s4 := hcfg.cell 4
      simp at s0 s1 s2 s3 s4
      go_wp2_with fail
      have hB : Below wr.heap.size wr wr.drew := (Below.refl _ _).drew
      generalize hlt3 : decide ((n : Int) < a3) = dl at *
      go_region_held3 (fun w' => w'.cell? ⟨w.heap.size, 0, none⟩ = some (.int .i64 a0) ∧ w'.cell? ⟨w.heap.size, 1, none⟩ = some (.int .i64 a1) ∧ w'.cell? ⟨w.heap.size, 2, none⟩ = some (.int .i64 a2) ∧ w'.cell? ⟨w.heap.size, 3, none⟩ = some (.int .i64 a3) ∧ w'.cell? ⟨w.heap.size, 4, none⟩ = some (.int .i64 a4)) (exact ⟨keepCell hB s0, keepCell hB s1, keepCell hB s2, keepCell hB s3, keepCell hB s4⟩) (first | (go_at_call 17; with_reducible refine (RPart_any A n c l ep true _ ?_ ?_ hw hp).mono ?_; omega; exact (hl'.below hB).more hB.size; rintro e wn ⟨⟨A4, n4, c4, rfl, e4, r4⟩, hbl⟩; rw [F1.out] at e4 r4; subst e4; have hB := hB.trans (hbl.mono hB.size)) | (go_at_call 17; with_reducible refine (RPart_any A n c l ep false _ ?_ ?_ hw hp).mono ?_; omega; exact (hl'.below hB).more hB.size; rintro e wn ⟨⟨A5, n5, c5, rfl, e5, r5⟩, hbl⟩; rw [F2.out] at e5 r5; subst e5; have hB := hB.trans (hbl.mono hB.size)) | (go_at_call 9; with_reducible refine (Same_eq A1 _ _ c1 _ _ _ rfl L1.out ((r1'.below hB).more hB.size) r4).mono ?_; rintro e wn ⟨rfl, hbl⟩; have hB := hB.trans (hbl.mono hB.size)) | (go_at_call 9; with_reducible refine (Same_eq A2 _ _ c2 _ _ _ rfl L2.out ((r2'.below hB).more hB.size) r5).mono ?_; rintro e wn ⟨rfl, hbl⟩; have hB := hB.trans (hbl.mono hB.size)) | (go_at_call 18; with_reducible refine (Without_any A n c l sl _ ?_ ?_ hw).mono ?_; omega; exact (hl'.below hB).more hB.size; rintro e wn ⟨⟨A6, n6, c6, rfl, e6, r6⟩, hbl⟩; subst e6; have hB := hB.trans (hbl.mono hB.size)) | (go_at_call 19; with_reducible refine (RWithout_any A n c l sl _ ?_ ?_ hw).mono ?_; omega; exact (hl'.below hB).more hB.size; rintro e wn ⟨⟨A7, n7, c7, rfl, e7, r7⟩, hbl⟩; subst e7; have hB := hB.trans (hbl.mono hB.size); have r6 := (r6.below hbl).more hbl.size) | (go_at_call 9; with_reducible refine (Same_eq A6 A7 _ c6 c7 _ _ rfl L3.out r6 r7).mono ?_; rintro e wn ⟨rfl, hbl⟩; have hB := hB.trans (hbl.mono hB.size)) | (go_at_call 20; with_reducible refine (Room_any _ _ _ _ _ _ _ _ _).mono ?_; rintro e wn ⟨rfl, hbl⟩; have hB := hB.trans (hbl.mono hB.size)) | (go_at_call 7; with_reducible refine (awake_any _).mono ?_; rintro e wn ⟨rfl, hbl⟩; have hB := hB.trans (hbl.mono hB.size)))
      all_goals go_wp2_with fail
      all_goals go_ret
      all_goals exact ⟨rfl, hbb.trans ((B3.trans (hB.mono B3.size)).mono hbb.size)⟩
end Go.Proofs.Ytenoekfcffkpeaa
