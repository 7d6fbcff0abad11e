/-
  Inner nodes: Right, the program's and the reference's.
-/
import Derived.Test.YtcmoblibjhaegaaLeafC
namespace Go.Proofs.Ytcmoblibjhaegaa
open Go.RowKit

def rightI (b : Bool) (ks vs : List Int) : Bool := b && decide (1 ≤ vs.length) && ks.length + 1 == vs.length && riseB ks
theorem rightI_parts {b : Bool} {ks vs : List Int} (h : rightI b ks vs = true) : b = true ∧ vs.length = ks.length + 1 ∧ riseB ks = true := by
  unfold rightI at h
  simp only [Bool.and_eq_true, beq_iff_eq, decide_eq_true_eq] at h
  exact ⟨h.1.1.1, h.1.2.symm, h.2⟩
theorem rightI_of {ks vs : List Int} (h : vs.length = ks.length + 1) (hr : riseB ks = true) : rightI true ks vs = true := by
  unfold rightI
  simp [h, hr]
set_option maxHeartbeats 2000000 in
theorem iright_any (v : Value) (b : Bool) (ks vs : List Int) (lk : Int) (w : World) (hl : ks.length ≤ 1000000) (h : Nd w w.heap.size v b ks vs lk) :
    Calls Try.prog 19 #[v] w fun e w' => e = .returned (.bool (rightI b ks vs)) ∧ Below w.heap.size w w' := by
  obtain ⟨k, u, rfl, hk, hu⟩ := h
  have E := hide (show rightI b ks vs = (b && decide (1 ≤ vs.length) && ks.length + 1 == vs.length && riseB ks) from rfl)
  generalize rightI b ks vs = R at *
  obtain ⟨A, c, rfl, _, _, hr⟩ := hk
  obtain ⟨A', c', rfl, hc1, hc2, _⟩ := hu
  have bx := Blk.new w 27 #[.bool b, .slice A ks.length c, .slice A' vs.length c', .int .u64 lk]
  have B0 := (Below.refl w.heap.size w).alloc (Nat.le_refl _) (.cells #[.bool b, .slice A ks.length c, .slice A' vs.length c', .int .u64 lk] 27)
  have hvm : (vs.length : Int) ≤ 9223372036854775807 := by omega
  clear hc1 hc2
  cases b
  · go_enter Try.func19, Try.ntmps19
    go_wp2_with fail
    go_ret
    exact ⟨by rw [E.out]; rfl, B0⟩
  by_cases h0 : vs.length = 0
  · rw [show decide (1 ≤ vs.length) = false by rw [decide_eq_false_iff_not]; omega] at E
    have q0 : ((vs.length : Int) == 0) = true := by rw [beq_iff_eq]; omega
    have q1 : (vs.length : Int) < 1 := by omega
    clear h0
    go_enter Try.func19, Try.ntmps19
    go_wp2_with fail
    go_ret
    exact ⟨by rw [E.out]; rfl, B0⟩
  rw [show decide (1 ≤ vs.length) = true by rw [decide_eq_true_eq]; omega] at E
  have q0 : ((vs.length : Int) == 0) = false := by rw [beq_eq_false_iff_ne]; omega
  have q0' : ¬ (vs.length : Int) < 1 := by omega
  have q0'' : (1 : Int) ≤ (vs.length : Int) := by omega
  by_cases hq : ks.length + 1 = vs.length
  · rw [show (ks.length + 1 == vs.length) = true by simpa using hq] at E
    have p1 : (vs.length : Int) - 1 = (ks.length : Int) := by omega
    have p2 : (ks.length : Int) + 1 = (vs.length : Int) := by omega
    clear hq h0
    go_enter Try.func19, Try.ntmps19
    go_wp2_with fail
    generalize w.alloc (.cells #[.bool true, .slice A ks.length c, .slice A' vs.length c', .int .u64 lk] 27) = w0 at *
    obtain ⟨z, hz⟩ : ∃ z, (ks.length : Int) - 1 = z := ⟨_, rfl⟩
    rw [hz]
    go_loopw [27] (fun i wr => ∃ k j : Nat, j = k + 1 ∧ i = .int .i64 (k : Int) ∧ (j ≤ ks.length → RiseTo ks j) ∧ (ks.length ≤ j → RiseTo ks ks.length) ∧ k ≤ ks.length ∧ Below w.heap.size w wr ∧ Blk wr w.heap.size 27 #[.bool true, .slice A ks.length c, .slice A' vs.length c', .int .u64 lk]) (fun i _ => 10000000 - (intOf i).toNat)
    case atStart => exact ⟨0, 1, rfl, rfl, fun _ => riseTo_small (Nat.le_refl _), fun hm => riseTo_small hm, by omega, B0, bx⟩
    case round =>
      clear bx B0
      obtain ⟨k, j, hj, rfl, s1, s2, hk, hb, bx⟩ := hrel
      have S1 := hide s1
      have S2 := hide s2
      clear s1 s2
      have mx := fun i => bx.cell i
      by_cases hlt : j < ks.length
      · obtain ⟨a, ea, hkl, z1⟩ := (hr.below hb).word (k := j) (by omega)
        obtain ⟨a2, ea2, hkl2, z2⟩ := (hr.below hb).word (k := k) (by omega)
        rw [ea] at ea2
        injection ea2 with ea2
        subst ea ea2
        have G1 := hide (show ks.getD j 0 = ks[j] by simp [List.getD, hkl])
        have G2 := hide (show ks.getD k 0 = ks[k] by simp [List.getD, hkl2])
        generalize ks[j] = x at *
        generalize ks[k] = y at *
        have q1 : (j : Int) - 1 = (k : Int) := by omega
        have q8 : (k : Int) + 1 = (j : Int) := by omega
        have q9 : k + 1 = j := hj.symm
        have q7 : (k : Int) < z := by omega
        clear hj
        by_cases hxy : y < x
        · have hs : RiseTo ks (j + 1) := (S1.out (by omega)).succ (by rw [show j - 1 = k by omega, G1.out, G2.out]; exact hxy) (by omega)
          have Hs := hide hs
          clear hs
          go_wp2_with fail
          go_quiet (fail)
          go_wp2_with fail
          go_roundw
          case rel => exact ⟨j, j + 1, rfl, by go_num, fun _ => Hs.out, fun h => fun i hi => Hs.out i (by omega), by omega, below_drewN hb _, bx.drewN _⟩
          case measure => simp [intOf]; omega
        · have hno := hide (riseB_no (l := ks) (i := k) (by omega) (by rw [q9, G1.out, G2.out]; exact hxy))
          go_wp2_with fail
          go_quiet (fail)
          go_wp2_with fail
          go_ret
          exact ⟨by rw [E.out, hno.out]; rfl, below_drewN hb _⟩
      · have hyes := hide ((riseB_iff ks).2 (S2.out (by omega)))
        have q7 : ¬ (k : Int) < z := by omega
        go_wp2_with fail
        go_ret
        exact ⟨by rw [E.out, hyes.out]; rfl, hb⟩
  · rw [show (ks.length + 1 == vs.length) = false by simpa using hq] at E
    have p1 : ((ks.length : Int) == (vs.length : Int) - 1) = false := by simp; omega
    have p1' : ((ks.length : Int) != (vs.length : Int) - 1) = true := by simp; omega
    have p2 : ((ks.length : Int) + 1 == (vs.length : Int)) = false := by simp; omega
    have p2' : ((ks.length : Int) + 1 != (vs.length : Int)) = true := by simp; omega
    clear hq h0
    go_enter Try.func19, Try.ntmps19
    go_wp2_with fail
    go_ret
    exact ⟨by rw [E.out]; rfl, B0⟩
set_option maxHeartbeats 2000000 in
theorem irright_any (v : Value) (b : Bool) (ks vs : List Int) (lk : Int) (w : World) (hl : ks.length ≤ 1000000) (h : Nd w w.heap.size v b ks vs lk) :
    Calls Try.prog 9 #[v] w fun e w' => e = .returned (.bool (rightI b ks vs)) ∧ Below w.heap.size w w' := by
  obtain ⟨k, u, rfl, hk, hu⟩ := h
  have E := hide (show rightI b ks vs = (b && decide (1 ≤ vs.length) && ks.length + 1 == vs.length && riseB ks) from rfl)
  generalize rightI b ks vs = R at *
  obtain ⟨A, c, rfl, _, _, hr⟩ := hk
  obtain ⟨A', c', rfl, hc1, hc2, _⟩ := hu
  have bx := Blk.new w 27 #[.bool b, .slice A ks.length c, .slice A' vs.length c', .int .u64 lk]
  have B0 := (Below.refl w.heap.size w).alloc (Nat.le_refl _) (.cells #[.bool b, .slice A ks.length c, .slice A' vs.length c', .int .u64 lk] 27)
  have hvm : (vs.length : Int) ≤ 9223372036854775807 := by omega
  clear hc1 hc2
  cases b
  · go_enter Try.func9, Try.ntmps9
    go_wp2_with fail
    go_ret
    exact ⟨by rw [E.out]; rfl, B0⟩
  by_cases h0 : vs.length = 0
  · rw [show decide (1 ≤ vs.length) = false by rw [decide_eq_false_iff_not]; omega] at E
    have q0 : ((vs.length : Int) == 0) = true := by rw [beq_iff_eq]; omega
    have q1 : (vs.length : Int) < 1 := by omega
    clear h0
    go_enter Try.func9, Try.ntmps9
    go_wp2_with fail
    go_ret
    exact ⟨by rw [E.out]; rfl, B0⟩
  rw [show decide (1 ≤ vs.length) = true by rw [decide_eq_true_eq]; omega] at E
  have q0 : ((vs.length : Int) == 0) = false := by rw [beq_eq_false_iff_ne]; omega
  have q0' : ¬ (vs.length : Int) < 1 := by omega
  have q0'' : (1 : Int) ≤ (vs.length : Int) := by omega
  by_cases hq : ks.length + 1 = vs.length
  · rw [show (ks.length + 1 == vs.length) = true by simpa using hq] at E
    have p1 : (vs.length : Int) - 1 = (ks.length : Int) := by omega
    have p2 : (ks.length : Int) + 1 = (vs.length : Int) := by omega
    clear hq h0
    go_enter Try.func9, Try.ntmps9
    go_wp2_with fail
    generalize w.alloc (.cells #[.bool true, .slice A ks.length c, .slice A' vs.length c', .int .u64 lk] 27) = w0 at *
    go_loopw [3] (fun i wr => ∃ k j : Nat, j = k + 1 ∧ i = .int .i64 (j : Int) ∧ (j ≤ ks.length → RiseTo ks j) ∧ (ks.length ≤ j → RiseTo ks ks.length) ∧ k ≤ ks.length ∧ Below w.heap.size w wr ∧ Blk wr w.heap.size 27 #[.bool true, .slice A ks.length c, .slice A' vs.length c', .int .u64 lk]) (fun i _ => 10000000 - (intOf i).toNat)
    case atStart => exact ⟨0, 1, rfl, rfl, fun _ => riseTo_small (Nat.le_refl _), fun hm => riseTo_small hm, by omega, B0, bx⟩
    case round =>
      clear bx B0
      obtain ⟨k, j, hj, rfl, s1, s2, hk, hb, bx⟩ := hrel
      have S1 := hide s1
      have S2 := hide s2
      clear s1 s2
      have mx := fun i => bx.cell i
      by_cases hlt : j < ks.length
      · obtain ⟨a, ea, hkl, z1⟩ := (hr.below hb).word (k := j) (by omega)
        obtain ⟨a2, ea2, hkl2, z2⟩ := (hr.below hb).word (k := k) (by omega)
        rw [ea] at ea2
        injection ea2 with ea2
        subst ea ea2
        have G1 := hide (show ks.getD j 0 = ks[j] by simp [List.getD, hkl])
        have G2 := hide (show ks.getD k 0 = ks[k] by simp [List.getD, hkl2])
        generalize ks[j] = x at *
        generalize ks[k] = y at *
        have q1 : (j : Int) - 1 = (k : Int) := by omega
        have q8 : (k : Int) + 1 = (j : Int) := by omega
        have q9 : k + 1 = j := hj.symm
        skip
        clear hj
        by_cases hxy : y < x
        · have hs : RiseTo ks (j + 1) := (S1.out (by omega)).succ (by rw [show j - 1 = k by omega, G1.out, G2.out]; exact hxy) (by omega)
          have Hs := hide hs
          clear hs
          go_wp2_with fail
          go_quiet (fail)
          go_wp2_with fail
          go_roundw
          case rel => exact ⟨j, j + 1, rfl, by go_num, fun _ => Hs.out, fun h => fun i hi => Hs.out i (by omega), by omega, below_drewN hb _, bx.drewN _⟩
          case measure => simp [intOf]; omega
        · have hno := hide (riseB_no (l := ks) (i := k) (by omega) (by rw [q9, G1.out, G2.out]; exact hxy))
          go_wp2_with fail
          go_quiet (fail)
          go_wp2_with fail
          go_ret
          exact ⟨by rw [E.out, hno.out]; rfl, below_drewN hb _⟩
      · have hyes := hide ((riseB_iff ks).2 (S2.out (by omega)))
        skip
        go_wp2_with fail
        go_ret
        exact ⟨by rw [E.out, hyes.out]; rfl, hb⟩
  · rw [show (ks.length + 1 == vs.length) = false by simpa using hq] at E
    have p1 : ((ks.length : Int) == (vs.length : Int) - 1) = false := by simp; omega
    have p1' : ((ks.length : Int) != (vs.length : Int) - 1) = true := by simp; omega
    have p2 : ((ks.length : Int) + 1 == (vs.length : Int)) = false := by simp; omega
    have p2' : ((ks.length : Int) + 1 != (vs.length : Int)) = true := by simp; omega
    clear hq h0
    go_enter Try.func9, Try.ntmps9
    go_wp2_with fail
    go_ret
    exact ⟨by rw [E.out]; rfl, B0⟩
end Go.Proofs.Ytcmoblibjhaegaa
