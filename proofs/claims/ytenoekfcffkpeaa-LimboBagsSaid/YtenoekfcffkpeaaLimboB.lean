/-
  The law LimboBags: its Go function hands back true.
-/
import Derived.Test.YtenoekfcffkpeaaLimboA
namespace Go.Proofs.Ytenoekfcffkpeaa
open Go.RowKit

theorem bag_take (l : List (Int × Int)) (k j : Nat) (h : k < l.length) : bag (l.take (k + 1)) j = if l[k].2 % 3 = (j : Int) then bag (l.take k) j ++ [l[k]] else bag (l.take k) j := by
  rw [take_snoc' l k h]
  unfold bag
  rw [List.filter_append]
  by_cases e : l[k].2 % 3 = (j : Int) <;> simp [e]

/-- The inner loop: what is wanted so far. -/
def BagIn (n : Nat) (l : List (Int × Int)) (k : Nat) (wo : World) (v i : Value) (wr : World) : Prop :=
  ∃ (k2 : Nat) (A2 : Option Addr) (c2 m : Nat), i = .int .i64 k2 ∧ k2 ≤ n ∧ v = .slice A2 m c2 ∧ m = (bag (l.take k2) k).length ∧ Below wo.heap.size wo wr ∧
         wr.ownsRow wo.heap.size 28 2 (.slice A2 m c2) m (rec2 (bag (l.take k2) k))
def BagOut (w1 : World) (i : Value) (wr : World) : Prop := ∃ (k : Nat), i = .int .i64 k ∧ k ≤ 3 ∧ Below w1.heap.size w1 wr

set_option maxHeartbeats 400000 in
theorem LimboBags_calls (A : Option Addr) (n c : Nat) (l : List (Int × Int)) (w : World) (hl : l.length = n) (hn : n ≤ maxLen) (hr : Reads w w.heap.size 2 A n (rec2 l))
    (hw : ∀ r ∈ l, 0 ≤ r.2 ∧ r.2 ≤ 18446744073709551615) :
    Calls Try.prog 3 #[.slice A n c] w fun r w' => r = .returned (.bool true) ∧ Below w.heap.size w w' := by
  unfold maxLen at hn
  by_cases h100 : 100 < n
  · go_enter Try.func3, Try.ntmps3
    go_wp2_with fail
    refine (awake_any _).mono ?_
    rintro e w' ⟨rfl, hb⟩
    go_wp2_with fail
    go_ret
    exact ⟨rfl, hb⟩
  obtain ⟨i0, hi0, hz0, hs0, hb0⟩ := info_parts infoRecord
  have h100' : n ≤ 100 := by omega
  have Hl := hide hl
  clear hl h100
  go_enter Try.func3, Try.ntmps3
  go_wp2_with fail
  refine (Bags_any A n c l w Hl.out (by omega) hr hw).mono ?_
  rintro e w1 ⟨⟨As, cs, rfl, hB3⟩, hb1⟩
  generalize hL : bag l = L at *
  have HL := hide hL
  clear hL
  simp only [cells3]
  have hRd : ∀ j, j < 3 → Reads w1 w1.heap.size 2 (As j) (L j).length (rec2 (L j)) := fun j hj => Reads.of_own (hB3.own j hj)
  have hz1 := hb1.size
  go_wp2_with fail
  go_loopw [4] (BagOut (w1.alloc (.cells (cells3 As cs L) 24))) (fun i _ => 3 - (intOf i).toNat)
  case atStart => exact ⟨0, rfl, by omega, Below.refl _ _⟩
  case round =>
    obtain ⟨k, rfl, hk, hb⟩ := hrel
    simp only [show (w1.alloc (.cells (cells3 As cs L) 24)).heap.size = w1.heap.size + 1 from by simp] at hb
    by_cases hlt : k < 3
    · obtain ⟨wo, rfl⟩ : ∃ wo : World, wo = wr := ⟨_, rfl⟩
      have hzo := hb.size
      simp at hzo
      have hbl := (Blk.new w1 24 (cells3 As cs L)).below hb (by omega)
      go_wp2_with fail
      go_loopw [5, 6] (BagIn n l k wo) (fun _ i _ => n - (intOf i).toNat)
      case atStart => exact ⟨0, none, 0, 0, rfl, by omega, rfl, by simp [bag], Below.refl _ _, by simpa [bag, rec2] using World.ownsRow_nil _ _ _ _⟩
      case round =>
        obtain ⟨k2, A2, c2, m, rfl, hk2, rfl, hm0, hb2, hown⟩ := hrel
        have Hm := hide hm0
        clear hm0
        by_cases hlt2 : k2 < n
        · have hkl : k2 < l.length := by rw [Hl.out]; exact hlt2
          have hbw := ((hb1.alloc hz1 (.cells (cells3 As cs L) 24)).trans (hb.mono (by omega))).trans (hb2.mono (by omega))
          obtain ⟨a, rfl, _, x1, x2⟩ := (hr.below hbw).row hlt2
          obtain ⟨y1, y2⟩ := rec2_get l k2 hkl
          have z1 := (x1 (by omega)).trans y1
          have z2 := (x2 1 (by omega) (by omega)).trans y2
          obtain ⟨he0, he1⟩ := hw l[k2] (List.getElem_mem hkl)
          have Hbt := hide (bag_take l k2 k hkl)
          generalize hr0 : l[k2] = r0 at *
          obtain ⟨h0, e0⟩ := r0
          clear x1 x2 y1 y2 hr0
          simp only at z1 z2 he0 he1
          have hm4 : m ≤ 4294967296 := by
            have h1 := bag_len (l.take k2) k
            have h2 : (l.take k2).length ≤ k2 := List.length_take_le _ _
            rw [Hm.out]
            omega
          by_cases heq : e0 % 3 = (k : Int)
          · have Hb2 := hide (Hbt.out.trans (if_pos heq))
            go_wp2_with (at_builtin; refine wpList_append_one rfl (.tmp 32) (.tmp 37) _ rfl wo.heap.size 28 i0 _ 2 16 Try.underlying22 hi0 hz0 hs0 hb0 rfl (by omega) (by omega) (.slice A2 m c2) m _ rfl (hown.alloc _) wr.heap.size #[.int .u64 h0, .int .u64 e0] rfl (Blk.new _ _ _) rfl rfl hm4 (by simp; have := hb2.size; omega) ?_; intro A3 c3 w3 hown3 hg3 _)
            have hb3 := below_appended (hb2.alloc hb2.size _) (hown.alloc (.cells #[.int .u64 h0, .int .u64 e0] 28)) hg3 (Nat.le_refl _) (by simp; have := hb2.size; omega)
            go_roundw
            case rel => exact ⟨k2 + 1, A3, c3, m + 1, by go_num, by omega, rfl, by rw [Hb2.out, List.length_append, ← Hm.out]; rfl, hb3, by rw [Hb2.out, rec2_append]; exact hown3⟩
            case measure => simp [intOf]; omega
          · have Hb2 := hide (Hbt.out.trans (if_neg heq))
            have heq' : (e0 % 3 == (k : Int)) = false := beq_eq_false_iff_ne.2 heq
            go_wp2_with fail
            go_roundw
            case rel => exact ⟨k2 + 1, A2, c2, m, by go_num, by omega, rfl, by rw [Hb2.out]; exact Hm.out, hb2, by rw [Hb2.out]; exact hown⟩
            case measure => simp [intOf]; omega
        · have hkn : k2 = n := by omega
          have Hm2 : bag (l.take k2) k = L k := by rw [List.take_of_length_le (by rw [Hl.out]; omega), HL.out]
          rw [Hm2] at hown
          have hmL : m = (L k).length := by rw [Hm.out, Hm2]
          subst hmL
          obtain ⟨c0, c1, c2'⟩ : wr.cell? ⟨w1.heap.size, 0, none⟩ = some (.slice (As 0) (L 0).length (cs 0)) ∧ wr.cell? ⟨w1.heap.size, 1, none⟩ = some (.slice (As 1) (L 1).length (cs 1)) ∧ wr.cell? ⟨w1.heap.size, 2, none⟩ = some (.slice (As 2) (L 2).length (cs 2)) := by
            have hblr := hbl.below hb2 (by omega)
            rw [hblr.cell, hblr.cell, hblr.cell]
            simp [cells3]
          have hbr := (hb.trans (hb2.mono hzo))
          have hRr := fun j (hj : j < 3) => (((hRd j hj).alloc (Nat.le_refl _) (.cells (cells3 As cs L) 24)).below (hbr.mono (by omega))).more (B' := wr.heap.size) (by have := hb2.size; omega)
          have hkL : (L k).length ≤ 1000 := by
            have := bag_len l k
            rw [HL.out, Hl.out] at this
            omega
          rcases (by omega : k = 0 ∨ k = 1 ∨ k = 2) with rfl | rfl | rfl
          · go_wp2_with fail
            refine (Same_eq _ _ _ _ _ (L 0) wr rfl hkL (hRr 0 (by omega)) (Reads.of_own hown)).mono ?_
            rintro e w5 ⟨rfl, hb5⟩
            go_wp2_with fail
            go_roundw
            case rel => exact ⟨0 + 1, by go_num, by omega, by simpa using hbr.trans (hb5.mono (by simpa using hbr.size))⟩
            case measure => simp [intOf]
          · go_wp2_with fail
            refine (Same_eq _ _ _ _ _ (L 1) wr rfl hkL (hRr 1 (by omega)) (Reads.of_own hown)).mono ?_
            rintro e w5 ⟨rfl, hb5⟩
            go_wp2_with fail
            go_roundw
            case rel => exact ⟨1 + 1, by go_num, by omega, by simpa using hbr.trans (hb5.mono (by simpa using hbr.size))⟩
            case measure => simp [intOf]
          · go_wp2_with fail
            refine (Same_eq _ _ _ _ _ (L 2) wr rfl hkL (hRr 2 (by omega)) (Reads.of_own hown)).mono ?_
            rintro e w5 ⟨rfl, hb5⟩
            go_wp2_with fail
            go_roundw
            case rel => exact ⟨2 + 1, by go_num, by omega, by simpa using hbr.trans (hb5.mono (by simpa using hbr.size))⟩
            case measure => simp [intOf]
    · go_wp2_with fail
      refine (awake_any _).mono ?_
      rintro e w' ⟨rfl, hb3⟩
      go_wp2_with fail
      go_ret
      have hb' := hb.trans (hb3.mono (by have := hb.size; simp at this; omega))
      exact ⟨rfl, (hb1.alloc hz1 _).trans (hb'.mono (by omega))⟩
end Go.Proofs.Ytenoekfcffkpeaa
