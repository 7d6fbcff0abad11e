/-
  Chapter 12's example; how many keys and values a leaf has.
-/
import Derived.Test.YtogpdgogcjljfaaLfS
namespace Go.Proofs.Ytogpdgogcjljfaa
open Go.RowKit

set_option maxHeartbeats 2000000 in
theorem awake12 (w : World) : Calls Try.prog 8 #[] w fun e w' => e = .returned (.bool true) ∧ Below w.heap.size w w' := by
  have hb := (Below.refl w.heap.size w).alloc (Nat.le_refl _) (.cells #[.int .u64 1, .int .u64 10, .int .u64 3, .int .u64 30, .int .u64 5, .int .u64 50] 29)
  have bp := Blk.new w 29 #[.int .u64 1, .int .u64 10, .int .u64 3, .int .u64 30, .int .u64 5, .int .u64 50]
  go_enter Try.func8, Try.ntmps8
  go_wp2_with fail
  generalize w.alloc (.cells #[.int .u64 1, .int .u64 10, .int .u64 3, .int .u64 30, .int .u64 5, .int .u64 50] 29) = w1 at *
  refine (lof_any 7 _ 3 3 [(1, 10), (3, 30), (5, 50)] w1 (by omega) ((Reads.blk bp 3 2 rfl).more bp.lt)).mono ?_
  rintro e w2 ⟨⟨u, rfl, hu⟩, hb2⟩
  rw [show riseB (fstL [(1, 10), (3, 30), (5, 50)]) = true by decide] at hu
  simp only [if_true] at hu
  rw [show fstL [(1, 10), (3, 30), (5, 50)] = [1, 3, 5] from rfl, show sndL [(1, 10), (3, 30), (5, 50)] = [10, 30, 50] from rfl] at hu
  replace hb := hb.trans (hb2.mono hb.size)
  clear hb2 bp
  have hn := hu.nd
  obtain ⟨A, c, A', c', rfl⟩ := hu.val
  clear hu
  have Sp := hide (fun w3 (hB : Below w2.heap.size w2 w3) => split_yes _ false [1, 3, 5] [10, 30, 50] 7 w3 (by decide) ((hn.below hB).more hB.size) (by decide) (by decide))
  rw [show splitN [1, 3, 5] = 2 by decide, show ([1, 3, 5] : List Int).getD 2 0 = 5 from rfl, show cutL [1, 3, 5] 0 2 = [1, 3] from rfl, show cutL [10, 30, 50] 0 2 = [10, 30] from rfl, show cutL [1, 3, 5] 2 ([1, 3, 5] : List Int).length = [5] from rfl, show cutL [10, 30, 50] 2 ([1, 3, 5] : List Int).length = [50] from rfl] at Sp
  have bn := Blk.new w2 27 #[.bool false, .slice A 3 c, .slice A' 3 c', .int .u64 7]
  have hb2 := (Below.refl w2.heap.size w2).alloc (Nat.le_refl _) (.cells #[.bool false, .slice A 3 c, .slice A' 3 c', .int .u64 7] 27)
  simp only [List.length_cons, List.length_nil] at Sp
  clear hn
  go_wp2_with fail
  generalize w2.alloc (.cells #[.bool false, .slice A 3 c, .slice A' 3 c', .int .u64 7] 27) = w3 at *
  refine (Sp.out _ hb2).mono ?_
  rintro e w4 ⟨⟨u1, u2, rfl, r1, r2⟩, hb4⟩
  replace hb := hb.trans ((hb2.trans (hb4.mono hb2.size)).mono hb.size)
  clear Sp hb2 hb4 bn
  obtain ⟨A1, c1, A2, c2, rfl⟩ := r1.val
  obtain ⟨A3, c3, A4, c4, rfl⟩ := r2.val
  clear r1 r2
  simp only [List.length_cons, List.length_nil]
  go_wp2_with fail
  go_ret
  refine ⟨rfl, ?_⟩
  exact (hb.alloc hb.size _).alloc (hb.alloc hb.size _).size _
set_option maxHeartbeats 400000 in
theorem small_any (b : Bool) (A A' : Option Addr) (n c m c' : Nat) (l : Int) (w : World) :
    Calls Try.prog 12 #[.agg #[.bool b, .slice A n c, .slice A' m c', .int .u64 l]] w fun e w' => e = .returned (.bool (decide (n ≤ 80) && decide (m ≤ 80))) ∧ Below w.heap.size w w' := by
  have B0 := (Below.refl w.heap.size w).alloc (Nat.le_refl _) (.cells #[.bool b, .slice A n c, .slice A' m c', .int .u64 l] 27)
  by_cases h : n ≤ 80
  · have h1 : (n : Int) ≤ 80 := by omega
    by_cases h' : m ≤ 80
    · have h2 : (m : Int) ≤ 80 := by omega
      go_enter Try.func12, Try.ntmps12
      go_wp2_with fail
      go_ret
      exact ⟨by simp [h, h'], B0⟩
    · have h2 : ¬ (m : Int) ≤ 80 := by omega
      go_enter Try.func12, Try.ntmps12
      go_wp2_with fail
      go_ret
      exact ⟨by simp, B0⟩
  · have h1 : ¬ (n : Int) ≤ 80 := by omega
    go_enter Try.func12, Try.ntmps12
    go_wp2_with fail
    go_ret
    exact ⟨by simp, B0⟩
end Go.Proofs.Ytogpdgogcjljfaa
