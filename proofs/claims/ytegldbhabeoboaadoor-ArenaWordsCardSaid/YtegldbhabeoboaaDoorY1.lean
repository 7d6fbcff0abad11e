/-
  Which nodes fit which fan: the program's Fits and the reference's.
-/
import Derived.Test.YtegldbhabeoboaaDoorZ6
namespace Go.Proofs.YtegldbhabeoboaaDoor
open Go.RowKit

def fitsB (b : Bool) (ks vs : List Int) (fan : Int) : Bool := decide ((vs.length : Int) ≤ fan) && (if b = true then decide (vs.length = ks.length + 1) else decide (vs.length = ks.length)) && riseB ks
theorem fits_far {b : Bool} {ks vs : List Int} {fan : Int} (h : fan < vs.length) : fitsB b ks vs fan = false := by
  unfold fitsB
  rw [show decide ((vs.length : Int) ≤ fan) = false by rw [decide_eq_false_iff_not]; omega]
  simp
theorem fits_noL {ks vs : List Int} {fan : Int} (h : vs.length ≠ ks.length) : fitsB false ks vs fan = false := by
  unfold fitsB
  simp [h]
theorem fits_noI {ks vs : List Int} {fan : Int} (h : vs.length ≠ ks.length + 1) : fitsB true ks vs fan = false := by
  unfold fitsB
  simp [h]
theorem fits_yes {b : Bool} {ks vs : List Int} {fan : Int} (h : (vs.length : Int) ≤ fan) (hm : if b = true then vs.length = ks.length + 1 else vs.length = ks.length) : fitsB b ks vs fan = riseB ks := by
  unfold fitsB
  cases b <;> simp_all
def FitsIn (l : List Int) (w1 : World) (i : Value) (wr : World) : Prop := ∃ (k : Nat) (q : Int), i = .int .i64 q ∧ q = (k : Int) ∧ k ≤ l.length ∧ RiseTo l k ∧ w1 = wr
theorem hr1 {l : List Int} {k : Nat} (h : RiseTo l k) (hx : l.getD (k - 1) 0 < l.getD k 0) (hk : 1 ≤ k) : RiseTo l (k + 1) := h.succ hx hk
set_option maxRecDepth 100000 in
set_option maxHeartbeats 4000000 in
theorem afits_any (v : Value) (b : Bool) (ks vs : List Int) (lk fan : Int) (w : World) (hl : ks.length ≤ 1000) (hv : vs.length ≤ 1000) (h : Nd w w.heap.size v b ks vs lk) :
    Calls Tryd.prog 41 #[v, .int .i64 fan] w fun e w' => e = .returned (.bool (fitsB b ks vs fan)) ∧ Below w.heap.size w w' := by
  obtain ⟨kv, uv, rfl, ⟨A, c, rfl, _, _, hks⟩, ⟨A', c', rfl, _, _, _⟩⟩ := h
  have B0 := (Below.refl w.heap.size w).alloc (Nat.le_refl _) (.cells #[.bool b, .slice A ks.length c, .slice A' vs.length c', .int .u64 lk] 49)
  have bx := Blk.new w 49 #[.bool b, .slice A ks.length c, .slice A' vs.length c', .int .u64 lk]
  have mx := fun i => bx.cell i
  by_cases hf : fan < (vs.length : Int)
  · have FE := hide (fits_far (b := b) (ks := ks) (vs := vs) (fan := fan) (by omega))
    clear hks bx hl hv
    cases b
    all_goals
      go_enter Tryd.func41, Tryd.ntmps41
      go_wp2_with fail
      go_ret
      exact ⟨by rw [FE.out]; rfl, B0⟩
  · have hf2 : (vs.length : Int) ≤ fan := by omega
    clear hf
    cases b
    · by_cases hnm : (ks.length : Int) = (vs.length : Int)
      · have FE := hide (fits_yes (b := false) (ks := ks) (vs := vs) (fan := fan) (by omega) (by simp; omega))
        have q1 : ((ks.length : Int) != (vs.length : Int)) = false := by simp [hnm]
        have HNM := hide hnm
        clear hnm
        go_enter Tryd.func41, Tryd.ntmps41
        go_wp2_with fail
        generalize w.alloc (.cells #[.bool false, .slice A ks.length c, .slice A' vs.length c', .int .u64 lk] 49) = w1 at *
        go_loopw [40] (FitsIn ks w1) (fun i _ => 10000000 - (intOf i).toNat)
        case atStart => exact ⟨0, 0, rfl, rfl, Nat.zero_le _, riseTo_small (by omega), rfl⟩
        case round =>
          obtain ⟨k, q, rfl, hq, hk, hr, rfl⟩ := hrel
          have HQ := hide hq
          have hq0 : 0 ≤ q := by omega
          have hq9 : q ≤ 1000000 := by omega
          have HR := hide hr
          clear hq hr
          by_cases hlt : k < ks.length
          · obtain ⟨a, ea, hkl, z1⟩ := (hks.below B0).word (k := k) (by omega)
            have G1 := hide (show ks.getD k 0 = ks[k] by simp [List.getD, hkl])
            generalize ks[k] = x at *
            rw [show k = q.toNat by have := HQ.out; omega] at z1
            by_cases hk0 : k = 0
            · have hs : RiseTo ks (k + 1) := riseTo_small (by omega)
              have Hs := hide hs
              have hq1 : q = 0 := by have := HQ.out; omega
              subst hq1
              have hql : (0 : Int) < (ks.length : Int) := by omega
              have hqz : 0 < ks.length := by omega
              have z0 : w1.cell? a = some (.int .u64 x) := by have e : (a.add (0 : Int).toNat) = a := (by simp [Addr.add]); rw [e] at z1; exact z1
              subst ea
              clear hs hlt hk hk0
              go_wp2_with fail
              go_roundw
              case measure => simp [intOf]
              case rel => exact ⟨k + 1, 1, rfl, by have := HQ.out; omega, by omega, Hs.out, rfl⟩
            · obtain ⟨a2, ea2, hkl2, z2⟩ := (hks.below B0).word (k := k - 1) (by omega)
              rw [ea] at ea2
              injection ea2 with ea2
              subst ea ea2
              have G2 := hide (show ks.getD (k - 1) 0 = ks[k - 1] by simp [List.getD, hkl2])
              generalize ks[k - 1] = y at *
              rw [show k - 1 = q.toNat - 1 by have := HQ.out; omega] at z2
              have hq1 : 0 < q := by have := HQ.out; omega
              have hql : q < (ks.length : Int) := by have := HQ.out; omega
              by_cases hxy : y < x
              · have hs : RiseTo ks (k + 1) := hr1 HR.out (by rw [G2.out, G1.out]; exact hxy) (by omega)
                have Hs := hide hs
                have HK0 := hide hk0
                clear hs hk0
                go_wp2_with fail
                go_roundw
                case measure => simp [intOf]; omega
                case rel => exact ⟨k + 1, q + 1, rfl, by have := HQ.out; omega, by omega, Hs.out, rfl⟩
              · have hno := hide (riseB_no (l := ks) (i := k - 1) (by omega) (by rw [show k - 1 + 1 = k by omega, G2.out, G1.out]; exact hxy))
                have hxy2 : x ≤ y := by omega
                clear hk0 hxy
                go_wp2_with fail
                go_ret
                exact ⟨by rw [FE.out, hno.out]; try rfl, B0⟩
          · have hyes := hide ((riseB_iff ks).2 (by rw [show ks.length = k by omega]; exact HR.out))
            have hql : ¬ q < (ks.length : Int) := by have := HQ.out; omega
            clear hlt
            go_wp2_with fail
            go_ret
            exact ⟨by rw [FE.out, hyes.out]; try rfl, B0⟩
      · have FE := hide (fits_noL (ks := ks) (vs := vs) (fan := fan) (by omega))
        have q1 : ((ks.length : Int) != (vs.length : Int)) = true := by simp [hnm]
        clear hnm hks
        go_enter Tryd.func41, Tryd.ntmps41
        go_wp2_with fail
        go_ret
        exact ⟨by rw [FE.out]; rfl, B0⟩
    · by_cases hnm : (ks.length : Int) = (vs.length : Int) - 1
      · have FE := hide (fits_yes (b := true) (ks := ks) (vs := vs) (fan := fan) (by omega) (by simp; omega))
        have q1 : ((ks.length : Int) != (vs.length : Int) - 1) = false := by simp [hnm]
        have q2 : ((vs.length : Int) == 0) = false := by simp only [beq_eq_false_iff_ne]; omega
        have HNM := hide hnm
        clear hnm
        go_enter Tryd.func41, Tryd.ntmps41
        go_wp2_with fail
        generalize w.alloc (.cells #[.bool true, .slice A ks.length c, .slice A' vs.length c', .int .u64 lk] 49) = w1 at *
        go_loopw [40] (FitsIn ks w1) (fun i _ => 10000000 - (intOf i).toNat)
        case atStart => exact ⟨0, 0, rfl, rfl, Nat.zero_le _, riseTo_small (by omega), rfl⟩
        case round =>
          obtain ⟨k, q, rfl, hq, hk, hr, rfl⟩ := hrel
          have HQ := hide hq
          have hq0 : 0 ≤ q := by omega
          have hq9 : q ≤ 1000000 := by omega
          have HR := hide hr
          clear hq hr
          by_cases hlt : k < ks.length
          · obtain ⟨a, ea, hkl, z1⟩ := (hks.below B0).word (k := k) (by omega)
            have G1 := hide (show ks.getD k 0 = ks[k] by simp [List.getD, hkl])
            generalize ks[k] = x at *
            rw [show k = q.toNat by have := HQ.out; omega] at z1
            by_cases hk0 : k = 0
            · have hs : RiseTo ks (k + 1) := riseTo_small (by omega)
              have Hs := hide hs
              have hq1 : q = 0 := by have := HQ.out; omega
              subst hq1
              have hql : (0 : Int) < (ks.length : Int) := by omega
              have hqz : 0 < ks.length := by omega
              have z0 : w1.cell? a = some (.int .u64 x) := by have e : (a.add (0 : Int).toNat) = a := (by simp [Addr.add]); rw [e] at z1; exact z1
              subst ea
              clear hs hlt hk hk0
              go_wp2_with fail
              go_roundw
              case measure => simp [intOf]
              case rel => exact ⟨k + 1, 1, rfl, by have := HQ.out; omega, by omega, Hs.out, rfl⟩
            · obtain ⟨a2, ea2, hkl2, z2⟩ := (hks.below B0).word (k := k - 1) (by omega)
              rw [ea] at ea2
              injection ea2 with ea2
              subst ea ea2
              have G2 := hide (show ks.getD (k - 1) 0 = ks[k - 1] by simp [List.getD, hkl2])
              generalize ks[k - 1] = y at *
              rw [show k - 1 = q.toNat - 1 by have := HQ.out; omega] at z2
              have hq1 : 0 < q := by have := HQ.out; omega
              have hql : q < (ks.length : Int) := by have := HQ.out; omega
              by_cases hxy : y < x
              · have hs : RiseTo ks (k + 1) := hr1 HR.out (by rw [G2.out, G1.out]; exact hxy) (by omega)
                have Hs := hide hs
                have HK0 := hide hk0
                clear hs hk0
                go_wp2_with fail
                go_roundw
                case measure => simp [intOf]; omega
                case rel => exact ⟨k + 1, q + 1, rfl, by have := HQ.out; omega, by omega, Hs.out, rfl⟩
              · have hno := hide (riseB_no (l := ks) (i := k - 1) (by omega) (by rw [show k - 1 + 1 = k by omega, G2.out, G1.out]; exact hxy))
                have hxy2 : x ≤ y := by omega
                clear hk0 hxy
                go_wp2_with fail
                go_ret
                exact ⟨by rw [FE.out, hno.out]; try rfl, B0⟩
          · have hyes := hide ((riseB_iff ks).2 (by rw [show ks.length = k by omega]; exact HR.out))
            have hql : ¬ q < (ks.length : Int) := by have := HQ.out; omega
            clear hlt
            go_wp2_with fail
            go_ret
            exact ⟨by rw [FE.out, hyes.out]; try rfl, B0⟩
      · have FE := hide (fits_noI (ks := ks) (vs := vs) (fan := fan) (by omega))
        have q1 : ((ks.length : Int) != (vs.length : Int) - 1) = true := by simp [hnm]
        clear hnm hks
        go_enter Tryd.func41, Tryd.ntmps41
        go_wp2_with fail
        go_ret
        exact ⟨by rw [FE.out]; rfl, B0⟩
end Go.Proofs.YtegldbhabeoboaaDoor

/-
  The reference's Fits; which nodes are small.
-/
namespace Go.Proofs.YtegldbhabeoboaaDoor
open Go.RowKit

def FitR (l : List Int) (g : Nat) (cs : Array Value) (w : World) (i : Value) (wr : World) : Prop :=
  ∃ k j : Nat, j = k + 1 ∧ i = .int .i64 (j : Int) ∧ (j ≤ l.length → RiseTo l j) ∧ (l.length ≤ j → RiseTo l l.length) ∧ k ≤ l.length ∧ Blk wr g 49 cs ∧ Below w.heap.size w wr
set_option maxRecDepth 100000 in
set_option maxHeartbeats 4000000 in
theorem rfits_any (v : Value) (b : Bool) (ks vs : List Int) (lk fan : Int) (w : World) (hl : ks.length ≤ 1000) (_hv : vs.length ≤ 1000) (h : Nd w w.heap.size v b ks vs lk) :
    Calls Tryd.prog 35 #[v, .int .i64 fan] w fun e w' => e = .returned (.bool (fitsB b ks vs fan)) ∧ Below w.heap.size w w' := by
  obtain ⟨kv, uv, rfl, ⟨A, c, rfl, _, _, hks⟩, ⟨A', c', rfl, _, _, _⟩⟩ := h
  have B0 := (Below.refl w.heap.size w).alloc (Nat.le_refl _) (.cells #[.bool b, .slice A ks.length c, .slice A' vs.length c', .int .u64 lk] 49)
  have bx := Blk.new w 49 #[.bool b, .slice A ks.length c, .slice A' vs.length c', .int .u64 lk]
  have mx := fun i => bx.cell i
  by_cases hf : fan < (vs.length : Int)
  · have FE := hide (fits_far (b := b) (ks := ks) (vs := vs) (fan := fan) (by omega))
    clear hks bx hl _hv
    cases b
    all_goals
      go_enter Tryd.func35, Tryd.ntmps35
      go_wp2_with fail
      go_ret
      exact ⟨by rw [FE.out]; rfl, B0⟩
  · have hf2 : (vs.length : Int) ≤ fan := by omega
    clear hf
    cases b
    · by_cases hnm : (vs.length : Int) = (ks.length : Int)
      · have FE := hide (fits_yes (b := false) (ks := ks) (vs := vs) (fan := fan) (by omega) (by simp; omega))
        have q1 : ((vs.length : Int) != (ks.length : Int)) = false := by simp [hnm]
        have HNM := hide hnm
        clear hnm
        go_enter Tryd.func35, Tryd.ntmps35
        go_wp2_with fail
        clear q1
        generalize w.alloc (.cells #[.bool false, .slice A ks.length c, .slice A' vs.length c', .int .u64 lk] 49) = w1 at *
        go_loopw [5] (FitR ks w.heap.size #[.bool false, .slice A ks.length c, .slice A' vs.length c', .int .u64 lk] w) (fun i _ => 10000000 - (intOf i).toNat)
        case atStart => exact ⟨0, 1, rfl, rfl, fun _ => riseTo_small (Nat.le_refl _), fun hm => riseTo_small hm, by omega, bx, B0⟩
        case round =>
          clear bx B0 mx
          obtain ⟨k, j, hj, rfl, s1, s2, hk, bx, hb⟩ := hrel
          have mx := fun i => bx.cell i
          have S1 := hide s1
          have S2 := hide s2
          clear s1 s2
          by_cases hlt : j < ks.length
          · obtain ⟨a, ea, hkl, z1⟩ := (hks.below hb).word (k := j) (by omega)
            obtain ⟨a2, ea2, hkl2, z2⟩ := (hks.below hb).word (k := k) (by omega)
            rw [ea] at ea2
            injection ea2 with ea2
            subst ea ea2
            have G1 := hide (show ks.getD j 0 = ks[j] by simp [List.getD, hkl])
            have G2 := hide (show ks.getD k 0 = ks[k] by simp [List.getD, hkl2])
            generalize ks[j] = x at *
            generalize ks[k] = y at *
            have q1 : (j : Int) - 1 = (k : Int) := by omega
            have q8 : (k : Int) + 1 = (j : Int) := by omega
            have q9 : k + 1 = j := hj.symm
            clear hj
            by_cases hxy : y < x
            · have hs : RiseTo ks (j + 1) := (S1.out (by omega)).succ (by rw [show j - 1 = k by omega, G1.out, G2.out]; exact hxy) (by omega)
              have Hs := hide hs
              clear hs
              go_wp2_with fail
              go_quiet (fail)
              go_wp2_with fail
              go_roundw
              case rel => exact ⟨j, j + 1, rfl, by go_num, fun _ => Hs.out, fun h => fun i hi => Hs.out i (by omega), by omega, bx.drewN _, below_drewN hb _⟩
              case measure => simp [intOf]; omega
            · have hno := hide (riseB_no (l := ks) (i := k) (by omega) (by rw [q9, G1.out, G2.out]; exact hxy))
              go_wp2_with fail
              go_quiet (fail)
              go_wp2_with fail
              go_ret
              exact ⟨by rw [FE.out, hno.out]; try rfl, below_drewN hb _⟩
          · have hyes := hide ((riseB_iff ks).2 (S2.out (by omega)))
            go_wp2_with fail
            go_ret
            exact ⟨by rw [FE.out, hyes.out]; try rfl, hb⟩
      · have FE := hide (fits_noL (ks := ks) (vs := vs) (fan := fan) (by omega))
        have q1 : ((vs.length : Int) != (ks.length : Int)) = true := by simp [hnm]
        clear hnm hks
        go_enter Tryd.func35, Tryd.ntmps35
        go_wp2_with fail
        go_ret
        exact ⟨by rw [FE.out]; rfl, B0⟩
    · by_cases hnm : (vs.length : Int) = (ks.length : Int) + 1
      · have FE := hide (fits_yes (b := true) (ks := ks) (vs := vs) (fan := fan) (by omega) (by simp; omega))
        have q1 : ((vs.length : Int) != (ks.length : Int) + 1) = false := by simp [hnm]
        have HNM := hide hnm
        clear hnm
        go_enter Tryd.func35, Tryd.ntmps35
        go_wp2_with fail
        clear q1
        generalize w.alloc (.cells #[.bool true, .slice A ks.length c, .slice A' vs.length c', .int .u64 lk] 49) = w1 at *
        go_loopw [5] (FitR ks w.heap.size #[.bool true, .slice A ks.length c, .slice A' vs.length c', .int .u64 lk] w) (fun i _ => 10000000 - (intOf i).toNat)
        case atStart => exact ⟨0, 1, rfl, rfl, fun _ => riseTo_small (Nat.le_refl _), fun hm => riseTo_small hm, by omega, bx, B0⟩
        case round =>
          clear bx B0 mx
          obtain ⟨k, j, hj, rfl, s1, s2, hk, bx, hb⟩ := hrel
          have mx := fun i => bx.cell i
          have S1 := hide s1
          have S2 := hide s2
          clear s1 s2
          by_cases hlt : j < ks.length
          · obtain ⟨a, ea, hkl, z1⟩ := (hks.below hb).word (k := j) (by omega)
            obtain ⟨a2, ea2, hkl2, z2⟩ := (hks.below hb).word (k := k) (by omega)
            rw [ea] at ea2
            injection ea2 with ea2
            subst ea ea2
            have G1 := hide (show ks.getD j 0 = ks[j] by simp [List.getD, hkl])
            have G2 := hide (show ks.getD k 0 = ks[k] by simp [List.getD, hkl2])
            generalize ks[j] = x at *
            generalize ks[k] = y at *
            have q1 : (j : Int) - 1 = (k : Int) := by omega
            have q8 : (k : Int) + 1 = (j : Int) := by omega
            have q9 : k + 1 = j := hj.symm
            clear hj
            by_cases hxy : y < x
            · have hs : RiseTo ks (j + 1) := (S1.out (by omega)).succ (by rw [show j - 1 = k by omega, G1.out, G2.out]; exact hxy) (by omega)
              have Hs := hide hs
              clear hs
              go_wp2_with fail
              go_quiet (fail)
              go_wp2_with fail
              go_roundw
              case rel => exact ⟨j, j + 1, rfl, by go_num, fun _ => Hs.out, fun h => fun i hi => Hs.out i (by omega), by omega, bx.drewN _, below_drewN hb _⟩
              case measure => simp [intOf]; omega
            · have hno := hide (riseB_no (l := ks) (i := k) (by omega) (by rw [q9, G1.out, G2.out]; exact hxy))
              go_wp2_with fail
              go_quiet (fail)
              go_wp2_with fail
              go_ret
              exact ⟨by rw [FE.out, hno.out]; try rfl, below_drewN hb _⟩
          · have hyes := hide ((riseB_iff ks).2 (S2.out (by omega)))
            go_wp2_with fail
            go_ret
            exact ⟨by rw [FE.out, hyes.out]; try rfl, hb⟩
      · have FE := hide (fits_noI (ks := ks) (vs := vs) (fan := fan) (by omega))
        have q1 : ((vs.length : Int) != (ks.length : Int) + 1) = true := by simp [hnm]
        clear hnm hks
        go_enter Tryd.func35, Tryd.ntmps35
        go_wp2_with fail
        go_ret
        exact ⟨by rw [FE.out]; rfl, B0⟩
def smallB (ks vs : List Int) : Bool := decide (ks.length ≤ 80) && decide (vs.length ≤ 80)
theorem small_any (v : Value) (b : Bool) (ks vs : List Int) (lk : Int) (w : World) (h : Nd w w.heap.size v b ks vs lk) :
    Calls Tryd.prog 31 #[v] w fun e w' => e = .returned (.bool (smallB ks vs)) ∧ Below w.heap.size w w' := by
  obtain ⟨kv, uv, rfl, ⟨A, c, rfl, _, _, _⟩, ⟨A', c', rfl, _, _, _⟩⟩ := h
  have B0 := (Below.refl w.heap.size w).alloc (Nat.le_refl _) (.cells #[.bool b, .slice A ks.length c, .slice A' vs.length c', .int .u64 lk] 49)
  have bx := Blk.new w 49 #[.bool b, .slice A ks.length c, .slice A' vs.length c', .int .u64 lk]
  have mx := fun i => bx.cell i
  have SE := hide (show smallB ks vs = (decide (ks.length ≤ 80) && decide (vs.length ≤ 80)) from rfl)
  generalize smallB ks vs = sm at *
  by_cases h1 : ks.length ≤ 80
  · have h1' : (ks.length : Int) ≤ 80 := by omega
    by_cases h2 : vs.length ≤ 80
    · have h2' : (vs.length : Int) ≤ 80 := by omega
      have SE2 := hide (SE.out.trans (by simp [h1, h2] : _ = true))
      clear SE
      go_enter Tryd.func31, Tryd.ntmps31
      go_wp2_with fail
      go_ret
      exact ⟨by rw [SE2.out]; rfl, B0⟩
    · have h2' : ¬ (vs.length : Int) ≤ 80 := by omega
      have SE2 := hide (SE.out.trans (by simp [h1, h2] : _ = false))
      clear SE
      go_enter Tryd.func31, Tryd.ntmps31
      go_wp2_with fail
      go_ret
      exact ⟨by rw [SE2.out]; rfl, B0⟩
  · have h1' : ¬ (ks.length : Int) ≤ 80 := by omega
    have SE2 := hide (SE.out.trans (by simp [h1] : _ = false))
    clear SE
    go_enter Tryd.func31, Tryd.ntmps31
    go_wp2_with fail
    go_ret
    exact ⟨by rw [SE2.out]; rfl, B0⟩
end Go.Proofs.YtegldbhabeoboaaDoor

