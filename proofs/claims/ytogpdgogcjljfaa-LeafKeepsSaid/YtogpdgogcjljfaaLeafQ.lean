/-
  The reference's Right.
-/
import Derived.Test.YtogpdgogcjljfaaLeafC
namespace Go.Proofs.Ytogpdgogcjljfaa
open Go.RowKit

set_option maxHeartbeats 2000000 in
theorem rright_any (v : Value) (b : Bool) (ks vs : List Int) (lk : Int) (w : World) (hl : ks.length ≤ 1000000) (h : Nd w w.heap.size v b ks vs lk) :
    Calls Try.prog 9 #[v] w fun e w' => e = .returned (.bool (rightB b ks vs)) ∧ Below w.heap.size w w' := by
  obtain ⟨k, u, rfl, hk, hu⟩ := h
  have E := hide (show rightB b ks vs = (!b && ks.length == vs.length && riseB ks) from rfl)
  generalize rightB b ks vs = R at *
  obtain ⟨A, c, rfl, _, _, hr⟩ := hk
  obtain ⟨A', c', rfl, _⟩ := hu
  have bx := Blk.new w 27 #[.bool b, .slice A ks.length c, .slice A' vs.length c', .int .u64 lk]
  have B0 := (Below.refl w.heap.size w).alloc (Nat.le_refl _) (.cells #[.bool b, .slice A ks.length c, .slice A' vs.length c', .int .u64 lk] 27)
  cases b
  · by_cases hq : ks.length = vs.length
    · have q1 : ((ks.length : Int) != (vs.length : Int)) = false := by simp [hq]
      have q1' : ((ks.length : Int) == (vs.length : Int)) = true := by simp [hq]
      have q2 : (ks.length == vs.length) = true := by simp [hq]
      rw [q2] at E
      clear hq q2
      go_enter Try.func9, Try.ntmps9
      go_wp2_with fail
      generalize w.alloc (.cells #[.bool false, .slice A ks.length c, .slice A' vs.length c', .int .u64 lk] 27) = w0 at *
      go_loopw [3] (fun i wr => ∃ k j : Nat, j = k + 1 ∧ i = .int .i64 (j : Int) ∧ (j ≤ ks.length → RiseTo ks j) ∧ (ks.length ≤ j → RiseTo ks ks.length) ∧ k ≤ ks.length ∧ Below w.heap.size w wr ∧ Blk wr w.heap.size 27 #[.bool false, .slice A ks.length c, .slice A' vs.length c', .int .u64 lk]) (fun i _ => 10000000 - (intOf i).toNat)
      case atStart => exact ⟨0, 1, rfl, rfl, fun _ => riseTo_small (Nat.le_refl _), fun hm => riseTo_small hm, by omega, B0, bx⟩
      case round =>
        obtain ⟨k, j, hj, rfl, s1, s2, hk, hb, bx⟩ := hrel
        have S1 := hide s1
        have S2 := hide s2
        clear s1 s2
        have mx := fun i => bx.cell i
        by_cases hlt : j < ks.length
        · obtain ⟨a, ea, hkl, z1⟩ := (hr.below hb).word (k := j) (by omega)
          obtain ⟨a2, ea2, hkl2, z2⟩ := (hr.below hb).word (k := k) (by omega)
          rw [ea] at ea2
          injection ea2 with ea2
          subst ea ea2
          have G1 := hide (show ks.getD j 0 = ks[j] by simp [List.getD, hkl])
          have G2 := hide (show ks.getD k 0 = ks[k] by simp [List.getD, hkl2])
          generalize ks[j] = x at *
          generalize ks[k] = y at *
          have q1 : (j : Int) - 1 = (k : Int) := by omega
          have q8 : (k : Int) + 1 = (j : Int) := by omega
          have q9 : k + 1 = j := hj.symm
          clear hj
          by_cases hxy : y < x
          · have hs : RiseTo ks (j + 1) := (S1.out (by omega)).succ (by rw [show j - 1 = k by omega, G1.out, G2.out]; exact hxy) (by omega)
            have Hs := hide hs
            clear hs
            go_wp2_with fail
            go_quiet (fail)
            go_wp2_with fail
            go_roundw
            case rel => exact ⟨j, j + 1, rfl, by go_num, fun _ => Hs.out, fun h => fun i hi => Hs.out i (by omega), by omega, below_drewN hb _, bx.drewN _⟩
            case measure => simp [intOf]; omega
          · have hno := hide (riseB_no (l := ks) (i := k) (by omega) (by rw [q9, G1.out, G2.out]; exact hxy))
            go_wp2_with fail
            go_quiet (fail)
            go_wp2_with fail
            go_ret
            exact ⟨by rw [E.out, hno.out]; rfl, below_drewN hb _⟩
        · have hyes := hide ((riseB_iff ks).2 (S2.out (by omega)))
          go_wp2_with fail
          go_ret
          exact ⟨by rw [E.out, hyes.out]; rfl, hb⟩
    · have q1 : ((ks.length : Int) != (vs.length : Int)) = true := by simp; omega
      have q1' : ((ks.length : Int) == (vs.length : Int)) = false := by simp; omega
      have q2 : (ks.length == vs.length) = false := by simp [hq]
      rw [q2] at E
      clear hq q2
      go_enter Try.func9, Try.ntmps9
      go_wp2_with fail
      go_ret
      exact ⟨by rw [E.out]; rfl, B0⟩
  · go_enter Try.func9, Try.ntmps9
    go_wp2_with fail
    go_ret
    exact ⟨by rw [E.out]; rfl, B0⟩
end Go.Proofs.Ytogpdgogcjljfaa
