/-
  limbo.Ripe, gleaningref16.Same, awake: contracts.
-/
import Derived.Test.YtenoekfcffkpeaaLimboBags
import Derived.Deep.RegionHeld3
import Derived.Deep.QuietTactic
import Derived.BigQuiet
namespace Go.Proofs.Ytenoekfcffkpeaa
open Go.RowKit

def ripeB (e ep : Int) : Bool := decide (e + 2 ≤ ep)

set_option maxHeartbeats 400000 in
theorem Ripe_any (h e ep : Int) (w : World) (he : W64 e) (hp : W64 ep) :
    Calls Try.prog 10 #[.agg #[.int .u64 h, .int .u64 e], .int .u64 ep] w fun r w' => r = .returned (.bool (ripeB e ep)) ∧ Below w.heap.size w w' := by
  obtain ⟨h0, h1⟩ := he
  obtain ⟨h2, h3⟩ := hp
  by_cases hc : e ≤ ep
  · go_enter Try.func10, Try.ntmps10
    go_wp2
    go_ret
    exact ⟨by unfold ripeB; congr 2; simp; omega, (Below.refl _ _).alloc (Nat.le_refl _) _⟩
  · go_enter Try.func10, Try.ntmps10
    go_wp2
    go_ret
    exact ⟨by unfold ripeB; congr 2; simp; omega, (Below.refl _ _).alloc (Nat.le_refl _) _⟩

set_option maxHeartbeats 400000 in
theorem Same_eq (A B : Option Addr) (n c d : Nat) (l : List (Int × Int)) (w : World) (hl : l.length = n) (hn : n ≤ 1000) (hA : Reads w w.heap.size 2 A n (rec2 l)) (hB : Reads w w.heap.size 2 B n (rec2 l)) :
    Calls Try.prog 9 #[.slice A n c, .slice B n d] w fun r w' => r = .returned (.bool true) ∧ Below w.heap.size w w' := by
  have Hl := hide hl
  clear hl
  go_enter Try.func9, Try.ntmps9
  go_wp2_with fail
  go_loopw [5] (fun i wr => ∃ (k : Nat), i = .int .i64 k ∧ k ≤ n ∧ Below w.heap.size w wr) (fun i _ => n - (intOf i).toNat)
  case atStart => exact ⟨0, rfl, by omega, Below.refl _ _⟩
  case round =>
    obtain ⟨k, rfl, hk, hb⟩ := hrel
    by_cases hlt : k < n
    · have hkl : k < l.length := by rw [Hl.out]; exact hlt
      obtain ⟨a, rfl, _, x1, x2⟩ := (hA.below hb).row hlt
      obtain ⟨b, rfl, _, x3, x4⟩ := (hB.below hb).row hlt
      obtain ⟨y1, y2⟩ := rec2_get l k hkl
      have z1 := (x1 (by omega)).trans y1
      have z2 := (x2 1 (by omega) (by omega)).trans y2
      have z3 := (x3 (by omega)).trans y1
      have z4 := (x4 1 (by omega) (by omega)).trans y2
      generalize l[k].1 = h0 at *
      generalize l[k].2 = e0 at *
      clear x1 x2 x3 x4 y1 y2
      go_wp2_with fail
      go_quiet (fail)
      go_wp2_with fail
      go_roundw
      case rel => exact ⟨k + 1, by go_num, by omega, below_drewN hb _⟩
      case measure => simp [intOf]; omega
    · go_wp2_with fail
      go_ret
      exact ⟨rfl, hb⟩

set_option maxHeartbeats 400000 in
theorem Room_any (A : Option Addr) (n c : Nat) (a0 a1 a2 a3 a4 : Int) (w : World) :
    Calls Try.prog 20 #[.slice A n c, .agg #[.int .i64 a0, .int .i64 a1, .int .i64 a2, .int .i64 a3, .int .i64 a4]] w fun r w' => r = .returned (.bool (decide ((n : Int) < a3))) ∧ Below w.heap.size w w' := by
  go_enter Try.func20, Try.ntmps20
  go_wp2
  go_ret
  exact ⟨rfl, (Below.refl _ _).alloc (Nat.le_refl _) _⟩

set_option maxHeartbeats 400000 in
theorem awake_any (w : World) : Calls Try.prog 7 #[] w fun r w' => r = .returned (.bool true) ∧ Below w.heap.size w w' := by
  go_enter Try.func7, Try.ntmps7
  go_wp2_with fail
  refine (Bags_any _ 1 1 [(65537, 4)] _ rfl (by omega) ?_ (by simp)).mono ?_
  · have := (Reads.new (w.alloc (.cells #[.int .u64 65537, .int .u64 4] 28)) [.int .u64 65537, .int .u64 4] 28 1 2 rfl).more (B' := w.heap.size + 2) (by simp)
    simpa [rec2] using this
  rintro e w1 ⟨⟨As, cs, rfl, _⟩, hb1⟩
  have hl0 : (bag [(65537, 4)] 0).length = 0 := by decide
  have hl1 : (bag [(65537, 4)] 1).length = 1 := by decide
  have hl2 : (bag [(65537, 4)] 2).length = 0 := by decide
  simp only [cells3, hl0, hl1, hl2]
  clear hl0 hl1 hl2
  have hz := hb1.size
  obtain ⟨hc1, hf1⟩ := bcell hb1
  simp at hc1 hz
  have hz2 : w.heap.size < w1.heap.size := by omega
  have KW : ∀ w', Below (w1.alloc (.cells #[.slice (As 0) 0 (cs 0), .slice (As 1) 1 (cs 1), .slice (As 2) 0 (cs 2)] 24)).heap.size (w1.alloc (.cells #[.slice (As 0) 0 (cs 0), .slice (As 1) 1 (cs 1), .slice (As 2) 0 (cs 2)] 24)) w' →
      w'.cell? ⟨w.heap.size, 0, none⟩ = some (.int .u64 65537) ∧ w'.cell? ⟨w.heap.size, 1, none⟩ = some (.int .u64 4) ∧ w'.cell? ⟨w1.heap.size, 1, none⟩ = some (.slice (As 1) 1 (cs 1)) := fun w' h => by
    obtain ⟨h1, _⟩ := bcell h
    rw [h1 _ _ (by simp; omega), h1 _ _ (by simp; omega), h1 _ _ (by simp)]
    simp [go_sem, hc1, hz2]
  go_wp2_with fail
  refine (Ripe_any _ _ _ _ ⟨by omega, by omega⟩ ⟨by omega, by omega⟩).mono ?_
  rintro e w2 ⟨rfl, hb2⟩
  obtain ⟨c0, c1, c2⟩ := KW w2 hb2
  simp only [show ripeB 4 6 = true from rfl]
  go_wp2_with fail
  refine (Ripe_any _ _ _ _ ⟨by omega, by omega⟩ ⟨by omega, by omega⟩).mono ?_
  rintro e w3 ⟨rfl, hb3⟩
  replace hb3 := hb2.trans (hb3.mono hb2.size)
  clear c0 c1 c2
  obtain ⟨c0, c1, c2⟩ := KW w3 hb3
  simp only [show ripeB 4 5 = false from rfl]
  go_wp2_with fail
  refine (Ripe_any _ _ _ _ ⟨by omega, by omega⟩ ⟨by omega, by omega⟩).mono ?_
  rintro e w4 ⟨rfl, hb4⟩
  replace hb4 := hb3.trans (hb4.mono hb3.size)
  clear c0 c1 c2
  obtain ⟨c0, c1, c2⟩ := KW w4 hb4
  simp only [show ripeB 4 3 = false from rfl]
  go_wp2_with fail
  refine (Room_any _ _ _ _ _ _ _ _ _).mono ?_
  rintro e w5 ⟨rfl, hb5⟩
  replace hb5 := hb4.trans (hb5.mono hb4.size)
  go_wp2_with fail
  go_ret
  refine ⟨by simp, ?_⟩
  have b0 := (((Below.refl w.heap.size w).alloc (Nat.le_refl _) (.cells #[.int .u64 65537, .int .u64 4] 28)).alloc (by simp) (.cells #[.int .u64 65537, .int .u64 4] 28)).trans (hb1.mono (by simp; omega))
  exact (b0.alloc (by omega) _).trans (hb5.mono (by simp; omega))
end Go.Proofs.Ytenoekfcffkpeaa
