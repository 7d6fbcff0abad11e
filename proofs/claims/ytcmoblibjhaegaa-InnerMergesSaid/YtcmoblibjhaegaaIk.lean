/-
  Chapter 13's example; how many keys and values a node has; is it a zero one.
-/
import Derived.Test.YtcmoblibjhaegaaIo
import Derived.Test.YtcmoblibjhaegaaIs
import Derived.Test.YtcmoblibjhaegaaIc
import Derived.Test.YtcmoblibjhaegaaLeafO
namespace Go.Proofs.Ytcmoblibjhaegaa
open Go.RowKit

theorem cell_one {w : World} {lo : Nat} {A : Option Addr} {n c : Nat} {xs : List Int} (h : Own w lo (.slice A n c) xs) (hn : 0 < xs.length) : ∃ ad, A = some ad ∧ w.cell? (ad.add 0) = some (.int .u64 (xs.getD 0 0)) := by
  obtain ⟨A', c', e, h1, h2, h3⟩ := h.sl
  simp only [Value.slice.injEq] at e
  obtain ⟨rfl, rfl, rfl⟩ := e
  obtain ⟨ad, ea, hk, zz⟩ := h3.word (k := 0) hn
  exact ⟨ad, ea, by rw [zz, gD xs 0 hk]⟩
set_option maxRecDepth 100000 in
set_option maxHeartbeats 4000000 in
theorem awake13 (w : World) : Calls Try.prog 8 #[] w fun e w' => e = .returned (.bool true) ∧ Below w.heap.size w w' := by
  have hb := (Below.refl w.heap.size w).alloc (Nat.le_refl _) (.cells #[.int .u64 5, .int .u64 8, .int .u64 9, .int .u64 3] 29)
  have bp := Blk.new w 29 #[.int .u64 5, .int .u64 8, .int .u64 9, .int .u64 3]
  go_enter Try.func8, Try.ntmps8
  go_wp2_with fail
  generalize w.alloc (.cells #[.int .u64 5, .int .u64 8, .int .u64 9, .int .u64 3] 29) = w1 at *
  refine (iof_any 7 _ 2 2 [(5, 8), (9, 3)] w1 (by omega) ((Reads.blk bp 2 2 rfl).more bp.lt)).mono ?_
  rintro e w2 ⟨⟨u, rfl, hu⟩, hb2⟩
  rw [show riseB (fstL [(5, 8), (9, 3)]) = true by decide] at hu
  simp only [if_true] at hu
  rw [show fstL [(5, 8), (9, 3)] = [5, 9] from rfl, show (7 : Int) :: sndL [(5, 8), (9, 3)] = [7, 8, 3] from rfl] at hu
  replace hb := hb.trans (hb2.mono hb.size)
  clear hb2 bp
  have hn := hu.nd
  obtain ⟨A, c, A', c', rfl⟩ := hu.val
  clear hu
  have Sp := hide (fun w3 (hB : Below w2.heap.size w2 w3) => isplit_yes _ true [5, 9] [7, 8, 3] 0 w3 (by decide) ((hn.below hB).more hB.size) (by decide) (by decide) 2 1 rfl rfl)
  have Ch := hide (fun w3 (hB : Below w2.heap.size w2 w3) => child_any _ true [5, 9] [7, 8, 3] 0 5 w3 (by decide) ((hn.below hB).more hB.size))
  rw [show childN true [5, 9] [7, 8, 3] 5 = 1 by decide] at Ch
  rw [show ([5, 9] : List Int).getD 1 0 = 9 from rfl, show ([5, 9] : List Int).take 1 = [5] from rfl, show ([7, 8, 3] : List Int).take 2 = [7, 8] from rfl, show ([5, 9] : List Int).drop 2 = [] from rfl, show ([7, 8, 3] : List Int).drop 2 = [3] from rfl] at Sp
  have bn := Blk.new w2 27 #[.bool true, .slice A 2 c, .slice A' 3 c', .int .u64 0]
  have hb2 := (Below.refl w2.heap.size w2).alloc (Nat.le_refl _) (.cells #[.bool true, .slice A 2 c, .slice A' 3 c', .int .u64 0] 27)
  simp only [List.length_cons, List.length_nil] at Sp Ch
  simp only [Nat.zero_add, Nat.reduceAdd] at Ch
  clear hn
  go_wp2_with fail
  generalize w2.alloc (.cells #[.bool true, .slice A 2 c, .slice A' 3 c', .int .u64 0] 27) = w3 at *
  refine (Sp.out _ hb2).mono ?_
  rintro e w4 ⟨⟨u1, u2, rfl, r1, r2⟩, hb4⟩
  replace bn := bn.below hb4 bn.lt
  replace hb2 := hb2.trans (hb4.mono hb2.size)
  clear Sp hb4
  obtain ⟨k1, v1, e1, o1, o2⟩ := r1
  obtain ⟨A1, c1, rfl⟩ := o1.val
  obtain ⟨A2, c2, rfl⟩ := o2.val
  obtain ⟨A3, c3, A4, c4, rfl⟩ := r2.val
  subst e1
  obtain ⟨ad, rfl, z0⟩ := cell_one o1 (by decide)
  clear r2 o2 z0
  simp only [List.length_cons, List.length_nil] at o1 ⊢
  have b1 := (Blk.new w4 27 #[.bool true, .slice (some ad) 1 c1, .slice A2 2 c2, .int .u64 0]).alloc (.cells #[.bool true, .slice A3 0 c3, .slice A4 1 c4, .int .u64 0] 27)
  have b2 := Blk.new (w4.alloc (.cells #[.bool true, .slice (some ad) 1 c1, .slice A2 2 c2, .int .u64 0] 27)) 27 #[.bool true, .slice A3 0 c3, .slice A4 1 c4, .int .u64 0]
  rw [World.size_alloc] at b2
  replace bn := (bn.alloc (.cells #[.bool true, .slice (some ad) 1 c1, .slice A2 2 c2, .int .u64 0] 27)).alloc (.cells #[.bool true, .slice A3 0 c3, .slice A4 1 c4, .int .u64 0] 27)
  replace o1 := (o1.alloc (.cells #[.bool true, .slice (some ad) 1 c1, .slice A2 2 c2, .int .u64 0] 27)).alloc (.cells #[.bool true, .slice A3 0 c3, .slice A4 1 c4, .int .u64 0] 27)
  replace hb2 := (hb2.alloc hb2.size (.cells #[.bool true, .slice (some ad) 1 c1, .slice A2 2 c2, .int .u64 0] 27)).alloc (hb2.alloc hb2.size (.cells #[.bool true, .slice (some ad) 1 c1, .slice A2 2 c2, .int .u64 0] 27)).size (.cells #[.bool true, .slice A3 0 c3, .slice A4 1 c4, .int .u64 0] 27)
  have mn := fun i => bn.cell i
  go_wp2_with fail
  generalize (w4.alloc (.cells #[.bool true, .slice (some ad) 1 c1, .slice A2 2 c2, .int .u64 0] 27)).alloc (.cells #[.bool true, .slice A3 0 c3, .slice A4 1 c4, .int .u64 0] 27) = w5 at *
  refine (Ch.out _ hb2).mono ?_
  rintro e w6 ⟨rfl, hb6⟩
  replace b1 := b1.below hb6 b1.lt
  replace b2 := b2.below hb6 b2.lt
  replace o1 := o1.below hb6
  replace hb2 := hb2.trans (hb6.mono hb2.size)
  clear mn bn hb6
  have m1 := fun i => b1.cell i
  have m2 := fun i => b2.cell i
  obtain ⟨ad', e1, z0⟩ := cell_one o1 (by decide)
  injection e1 with e1
  subst e1
  have z1 : w6.cell? ad = some (.int .u64 5) := by
    have : ad.add 0 = ad := by simp [Addr.add]
    rw [this] at z0
    exact z0
  go_wp2_with fail
  go_ret
  exact ⟨rfl, hb.trans (hb2.mono hb.size)⟩
set_option maxHeartbeats 400000 in
theorem small_any (b : Bool) (A A' : Option Addr) (n c m c' : Nat) (l : Int) (w : World) :
    Calls Try.prog 12 #[.agg #[.bool b, .slice A n c, .slice A' m c', .int .u64 l]] w fun e w' => e = .returned (.bool (decide (n ≤ 80) && decide (m ≤ 80))) ∧ Below w.heap.size w w' := by
  have B0 := (Below.refl w.heap.size w).alloc (Nat.le_refl _) (.cells #[.bool b, .slice A n c, .slice A' m c', .int .u64 l] 27)
  by_cases h : n ≤ 80
  · have h1 : (n : Int) ≤ 80 := by omega
    by_cases h' : m ≤ 80
    · have h2 : (m : Int) ≤ 80 := by omega
      go_enter Try.func12, Try.ntmps12
      go_wp2_with fail
      go_ret
      exact ⟨by simp [h, h'], B0⟩
    · have h2 : ¬ (m : Int) ≤ 80 := by omega
      go_enter Try.func12, Try.ntmps12
      go_wp2_with fail
      go_ret
      exact ⟨by simp, B0⟩
  · have h1 : ¬ (n : Int) ≤ 80 := by omega
    go_enter Try.func12, Try.ntmps12
    go_wp2_with fail
    go_ret
    exact ⟨by simp, B0⟩
set_option maxRecDepth 100000 in
set_option maxHeartbeats 4000000 in
theorem none_any (v : Value) (b : Bool) (ks vs : List Int) (l : Int) (w : World) (hl : ks.length ≤ 1000000) (hl' : vs.length ≤ 1000000) (h : Nd w w.heap.size v b ks vs l) :
    Calls Try.prog 14 #[v] w fun e w' => e = .returned (.bool (sameB b ks vs l false [] [] 0)) ∧ Below w.heap.size w w' := by
  have Sm := hide (fun w2 (hB : Below w.heap.size w w2) => same_any v (.agg #[.bool false, .slice none 0 0, .slice none 0 0, .int .u64 0]) b false ks vs [] [] l 0 w2 (by omega) (by omega) (by simp) (by simp) ((h.below hB).more hB.size) (Nd.zero _ _))
  obtain ⟨A, c, A', c', rfl⟩ := ValN w b ks vs l v h
  generalize sameB b ks vs l false [] [] 0 = r at *
  generalize ks.length = n at *
  generalize vs.length = m at *
  have hb := (Below.refl w.heap.size w).alloc (Nat.le_refl _) (.cells #[.bool b, .slice A n c, .slice A' m c', .int .u64 l] 27)
  go_enter Try.func14, Try.ntmps14
  go_wp2_with fail
  refine (Sm.out _ hb).mono ?_
  rintro e w2 ⟨rfl, hb1⟩
  go_wp2_with fail
  go_ret
  exact ⟨rfl, hb.trans (hb1.mono hb.size)⟩
end Go.Proofs.Ytcmoblibjhaegaa
