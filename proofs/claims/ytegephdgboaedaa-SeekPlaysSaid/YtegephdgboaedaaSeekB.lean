/-
  seek.Steps, the reference's Took.
-/
import Derived.Test.YtegephdgboaedaaSeek
import Derived.Test.YtegephdgboaedaaWid
namespace Go.Proofs.Ytegephdgboaedaa
open Go.RowKit

def steps (n : Int) : Int := if n < 1 then 0 else wid n.toNat
def StepsIn (x : Nat) (v n : Value) : Prop := ∃ k : Nat, n = .int .i64 k ∧ k ≤ 64 ∧ v = .int .i64 ((x / 2 ^ k : Nat) : Int) ∧ (k = 0 ∨ 2 ^ (k - 1) ≤ x)

set_option maxHeartbeats 400000 in
theorem steps_any (n : Int) (w : World) (hn : I64 n) :
    Calls Try.prog 13 #[.int .i64 n] w fun r w' => r = .returned (.int .i64 (steps n)) ∧ w = w' := by
  obtain ⟨h1, h2⟩ := hn
  by_cases c : n < 1
  · have E := hide (show steps n = 0 from if_pos c)
    have c' : n ≤ 0 := by omega
    clear c
    go_enter Try.func13, Try.ntmps13
    go_wp2_with fail
    go_loop [0, 3] (fun v k => v = .int .i64 n ∧ k = .int .i64 0) (fun _ _ => 0)
    case atStart => exact ⟨rfl, rfl⟩
    case round =>
      obtain ⟨rfl, rfl⟩ := hrel
      go_wp2_with fail
      go_ret
      exact ⟨by rw [E.out]; rfl, rfl⟩
  obtain ⟨x, rfl⟩ := Int.eq_ofNat_of_zero_le (show 0 ≤ n by omega)
  have E := hide (show steps x = wid x by unfold steps; rw [if_neg c]; simp)
  clear c
  go_enter Try.func13, Try.ntmps13
  go_wp2_with fail
  go_loop [0, 3] (StepsIn x) (fun v _ => (intOf v).toNat)
  case atStart => exact ⟨0, rfl, by omega, by simp, .inl rfl⟩
  case round =>
    obtain ⟨k, rfl, hk, rfl, hor⟩ := hrel
    have D := hide (show x / 2 ^ k / 2 = x / 2 ^ (k + 1) by rw [Nat.pow_succ, Nat.div_div_eq_div_mul])
    have h0 : 0 < x / 2 ^ k ↔ 2 ^ k ≤ x := Nat.div_pos_iff.trans ⟨fun h => h.2, fun h => ⟨Nat.two_pow_pos k, h⟩⟩
    have hle : x / 2 ^ k ≤ x := Nat.div_le_self _ _
    by_cases hlt : 0 < x / 2 ^ k
    · have hge := h0.1 hlt
      have hk2 : k < 64 := by
        rcases Nat.lt_or_ge k 64 with h | h
        · exact h
        · have := Nat.pow_le_pow_right (show 0 < 2 by omega) h; omega
      have Hge := hide hge
      clear h0 hge hor
      generalize x / 2 ^ k = y at *
      go_wp2_with fail
      go_round
      case rel => exact ⟨k + 1, by go_num, by omega, by rw [← D.out]; simp, .inr (by simpa using Hge.out)⟩
      case measure => simp [intOf]; omega
    · have W := hide (wid_of (x := x) (k := k) (by omega) hor)
      clear h0 hor
      generalize x / 2 ^ k = y at *
      go_wp2_with fail
      go_ret
      exact ⟨by rw [E.out, W.out]; rfl, rfl⟩

set_option maxHeartbeats 1000000 in
theorem rstook_any (kind lo hi key k : Int) (w : World) (h : SOk lo hi) (hk : kind = 1 ∨ kind = 2 ∨ hi ≤ lo) :
    Calls Try.prog 15 #[.agg #[.int .i64 kind, .int .i64 lo, .int .i64 hi, .int .u64 key], .int .u64 k] w fun r w' => r = .returned (.agg #[.int .i64 kind, .int .i64 (slo kind lo hi key k), .int .i64 (shi kind lo hi key k), .int .u64 key]) ∧ Below w.heap.size w w' := by
  have W := hide (fun w => rswant_any kind lo hi key w h)
  obtain ⟨h1, h2, h3⟩ := h
  by_cases c : hi ≤ lo
  · have E1 := hide (show slo kind lo hi key k = lo from if_pos c)
    have E2 := hide (show shi kind lo hi key k = hi from if_pos c)
    rw [show swant lo hi = -1 from if_pos c] at W
    clear hk
    go_enter Try.func15, Try.ntmps15
    go_wp2_with fail
    refine (W.out _).mono ?_
    rintro e w1 ⟨rfl, hb1⟩
    have hz1 := hb1.size
    simp only [World.size_alloc] at hz1
    have b0 := (((Blk.new w 29 #[.int .i64 kind, .int .i64 lo, .int .i64 hi, .int .u64 key])).alloc (.cells #[.int .i64 0, .int .i64 0, .int .i64 0, .int .u64 0] 29)).below hb1 (by simp only [World.size_alloc]; omega)
    have b1 := (Blk.new (w.alloc (.cells #[.int .i64 kind, .int .i64 lo, .int .i64 hi, .int .u64 key] 29)) 29 #[.int .i64 0, .int .i64 0, .int .i64 0, .int .u64 0]).below hb1 (by simp only [World.size_alloc]; omega)
    simp only [World.size_alloc] at b1
    have c0 := fun i => b0.cell i
    have f0 := fun i => b0.frozen i
    have c1 := fun i => b1.cell i
    have f1 := fun i => b1.frozen i
    have B1 : Below w.heap.size w w1 := (((Below.refl _ _).alloc (Nat.le_refl _) (.cells #[.int .i64 kind, .int .i64 lo, .int .i64 hi, .int .u64 key] 29)).alloc (by simp only [World.size_alloc]; omega) (.cells #[.int .i64 0, .int .i64 0, .int .i64 0, .int .u64 0] 29)).trans (hb1.mono (by simp only [World.size_alloc]; omega))
    go_wp2_with fail
    refine bodyPost_ret (v := .agg #[.int .i64 kind, .int .i64 lo, .int .i64 hi, .int .u64 key]) (by simp [results, Try.results15, go_sem, c1]) rfl ⟨by rw [E1.out, E2.out], ?_⟩
    exact (((B1.setCell (by simp) _).setCell (by simp) _).setCell (by simp) _).setCell (by simp) _
  · have hm1 : 0 ≤ lo + (hi - lo) / 2 := by omega
    have hm2 : lo + (hi - lo) / 2 < hi := by omega
    rw [show swant lo hi = lo + (hi - lo) / 2 from if_neg c] at W
    rcases (show (kind = 1 ∧ k < key) ∨ (kind = 1 ∧ key ≤ k) ∨ (kind = 2 ∧ k < key) ∨ (kind = 2 ∧ k = key) ∨ (kind = 2 ∧ key < k) by omega) with ⟨rfl, hkk⟩ | ⟨rfl, hkk⟩ | ⟨rfl, hkk⟩ | ⟨rfl, rfl⟩ | ⟨rfl, hkk⟩
    all_goals clear hk
    · have hp : spass 1 key k = true := by simp [spass, hkk]
      have E1 := hide (show slo 1 lo hi key k = lo + (hi - lo) / 2 + 1 by unfold slo; rw [if_neg c, if_pos hp])
      have E2 := hide (show shi 1 lo hi key k = hi by unfold shi; rw [if_neg c, if_pos hp])
      clear hp
      generalize lo + (hi - lo) / 2 = mid at *
      go_enter Try.func15, Try.ntmps15
      go_wp2_with fail
      refine (W.out _).mono ?_
      rintro e w1 ⟨rfl, hb1⟩
      have hz1 := hb1.size
      simp only [World.size_alloc] at hz1
      have b0 := (((Blk.new w 29 #[.int .i64 1, .int .i64 lo, .int .i64 hi, .int .u64 key])).alloc (.cells #[.int .i64 0, .int .i64 0, .int .i64 0, .int .u64 0] 29)).below hb1 (by simp only [World.size_alloc]; omega)
      have b1 := (Blk.new (w.alloc (.cells #[.int .i64 1, .int .i64 lo, .int .i64 hi, .int .u64 key] 29)) 29 #[.int .i64 0, .int .i64 0, .int .i64 0, .int .u64 0]).below hb1 (by simp only [World.size_alloc]; omega)
      simp only [World.size_alloc] at b1
      have c0 := fun i => b0.cell i
      have f0 := fun i => b0.frozen i
      have c1 := fun i => b1.cell i
      have f1 := fun i => b1.frozen i
      have B1 : Below w.heap.size w w1 := (((Below.refl _ _).alloc (Nat.le_refl _) (.cells #[.int .i64 1, .int .i64 lo, .int .i64 hi, .int .u64 key] 29)).alloc (by simp only [World.size_alloc]; omega) (.cells #[.int .i64 0, .int .i64 0, .int .i64 0, .int .u64 0] 29)).trans (hb1.mono (by simp only [World.size_alloc]; omega))
      go_wp2_with fail
      refine bodyPost_ret (v := .agg #[.int .i64 1, .int .i64 (mid + 1), .int .i64 hi, .int .u64 key]) (by simp [results, Try.results15, go_sem, c1]) rfl ⟨by rw [E1.out, E2.out], ?_⟩
      exact ((((B1.setCell (by simp) _).setCell (by simp) _).setCell (by simp) _).setCell (by simp) _).setCell (by simp) _
    · have hp : spass 1 key k = false := by simp [spass, hkk]
      have E1 := hide (show slo 1 lo hi key k = lo by unfold slo; rw [if_neg c, hp, if_neg (by simp)])
      have E2 := hide (show shi 1 lo hi key k = lo + (hi - lo) / 2 by unfold shi; rw [if_neg c, hp, if_neg (by simp)])
      clear hp
      generalize lo + (hi - lo) / 2 = mid at *
      go_enter Try.func15, Try.ntmps15
      go_wp2_with fail
      refine (W.out _).mono ?_
      rintro e w1 ⟨rfl, hb1⟩
      have hz1 := hb1.size
      simp only [World.size_alloc] at hz1
      have b0 := (((Blk.new w 29 #[.int .i64 1, .int .i64 lo, .int .i64 hi, .int .u64 key])).alloc (.cells #[.int .i64 0, .int .i64 0, .int .i64 0, .int .u64 0] 29)).below hb1 (by simp only [World.size_alloc]; omega)
      have b1 := (Blk.new (w.alloc (.cells #[.int .i64 1, .int .i64 lo, .int .i64 hi, .int .u64 key] 29)) 29 #[.int .i64 0, .int .i64 0, .int .i64 0, .int .u64 0]).below hb1 (by simp only [World.size_alloc]; omega)
      simp only [World.size_alloc] at b1
      have c0 := fun i => b0.cell i
      have f0 := fun i => b0.frozen i
      have c1 := fun i => b1.cell i
      have f1 := fun i => b1.frozen i
      have B1 : Below w.heap.size w w1 := (((Below.refl _ _).alloc (Nat.le_refl _) (.cells #[.int .i64 1, .int .i64 lo, .int .i64 hi, .int .u64 key] 29)).alloc (by simp only [World.size_alloc]; omega) (.cells #[.int .i64 0, .int .i64 0, .int .i64 0, .int .u64 0] 29)).trans (hb1.mono (by simp only [World.size_alloc]; omega))
      go_wp2_with fail
      refine bodyPost_ret (v := .agg #[.int .i64 1, .int .i64 lo, .int .i64 mid, .int .u64 key]) (by simp [results, Try.results15, go_sem, c1]) rfl ⟨by rw [E1.out, E2.out], ?_⟩
      exact ((((B1.setCell (by simp) _).setCell (by simp) _).setCell (by simp) _).setCell (by simp) _).setCell (by simp) _
    · have hp : spass 2 key k = true := by simp [spass]; omega
      have E1 := hide (show slo 2 lo hi key k = lo + (hi - lo) / 2 + 1 by unfold slo; rw [if_neg c, if_pos hp])
      have E2 := hide (show shi 2 lo hi key k = hi by unfold shi; rw [if_neg c, if_pos hp])
      clear hp
      generalize lo + (hi - lo) / 2 = mid at *
      go_enter Try.func15, Try.ntmps15
      go_wp2_with fail
      refine (W.out _).mono ?_
      rintro e w1 ⟨rfl, hb1⟩
      have hz1 := hb1.size
      simp only [World.size_alloc] at hz1
      have b0 := (((Blk.new w 29 #[.int .i64 2, .int .i64 lo, .int .i64 hi, .int .u64 key])).alloc (.cells #[.int .i64 0, .int .i64 0, .int .i64 0, .int .u64 0] 29)).below hb1 (by simp only [World.size_alloc]; omega)
      have b1 := (Blk.new (w.alloc (.cells #[.int .i64 2, .int .i64 lo, .int .i64 hi, .int .u64 key] 29)) 29 #[.int .i64 0, .int .i64 0, .int .i64 0, .int .u64 0]).below hb1 (by simp only [World.size_alloc]; omega)
      simp only [World.size_alloc] at b1
      have c0 := fun i => b0.cell i
      have f0 := fun i => b0.frozen i
      have c1 := fun i => b1.cell i
      have f1 := fun i => b1.frozen i
      have B1 : Below w.heap.size w w1 := (((Below.refl _ _).alloc (Nat.le_refl _) (.cells #[.int .i64 2, .int .i64 lo, .int .i64 hi, .int .u64 key] 29)).alloc (by simp only [World.size_alloc]; omega) (.cells #[.int .i64 0, .int .i64 0, .int .i64 0, .int .u64 0] 29)).trans (hb1.mono (by simp only [World.size_alloc]; omega))
      go_wp2_with fail
      refine bodyPost_ret (v := .agg #[.int .i64 2, .int .i64 (mid + 1), .int .i64 hi, .int .u64 key]) (by simp [results, Try.results15, go_sem, c1]) rfl ⟨by rw [E1.out, E2.out], ?_⟩
      exact ((((B1.setCell (by simp) _).setCell (by simp) _).setCell (by simp) _).setCell (by simp) _).setCell (by simp) _
    · have hp : spass 2 k k = true := by simp [spass]
      have E1 := hide (show slo 2 lo hi k k = lo + (hi - lo) / 2 + 1 by unfold slo; rw [if_neg c, if_pos hp])
      have E2 := hide (show shi 2 lo hi k k = hi by unfold shi; rw [if_neg c, if_pos hp])
      clear hp
      generalize lo + (hi - lo) / 2 = mid at *
      go_enter Try.func15, Try.ntmps15
      go_wp2_with fail
      refine (W.out _).mono ?_
      rintro e w1 ⟨rfl, hb1⟩
      have hz1 := hb1.size
      simp only [World.size_alloc] at hz1
      have b0 := (((Blk.new w 29 #[.int .i64 2, .int .i64 lo, .int .i64 hi, .int .u64 k])).alloc (.cells #[.int .i64 0, .int .i64 0, .int .i64 0, .int .u64 0] 29)).below hb1 (by simp only [World.size_alloc]; omega)
      have b1 := (Blk.new (w.alloc (.cells #[.int .i64 2, .int .i64 lo, .int .i64 hi, .int .u64 k] 29)) 29 #[.int .i64 0, .int .i64 0, .int .i64 0, .int .u64 0]).below hb1 (by simp only [World.size_alloc]; omega)
      simp only [World.size_alloc] at b1
      have c0 := fun i => b0.cell i
      have f0 := fun i => b0.frozen i
      have c1 := fun i => b1.cell i
      have f1 := fun i => b1.frozen i
      have B1 : Below w.heap.size w w1 := (((Below.refl _ _).alloc (Nat.le_refl _) (.cells #[.int .i64 2, .int .i64 lo, .int .i64 hi, .int .u64 k] 29)).alloc (by simp only [World.size_alloc]; omega) (.cells #[.int .i64 0, .int .i64 0, .int .i64 0, .int .u64 0] 29)).trans (hb1.mono (by simp only [World.size_alloc]; omega))
      go_wp2_with fail
      refine bodyPost_ret (v := .agg #[.int .i64 2, .int .i64 (mid + 1), .int .i64 hi, .int .u64 k]) (by simp [results, Try.results15, go_sem, c1]) rfl ⟨by rw [E1.out, E2.out], ?_⟩
      exact ((((B1.setCell (by simp) _).setCell (by simp) _).setCell (by simp) _).setCell (by simp) _).setCell (by simp) _
    · have hp : spass 2 key k = false := by simp [spass, hkk]
      have hkk' : (k == key) = false := beq_eq_false_iff_ne.2 (by omega)
      have E1 := hide (show slo 2 lo hi key k = lo by unfold slo; rw [if_neg c, hp, if_neg (by simp)])
      have E2 := hide (show shi 2 lo hi key k = lo + (hi - lo) / 2 by unfold shi; rw [if_neg c, hp, if_neg (by simp)])
      clear hp
      generalize lo + (hi - lo) / 2 = mid at *
      go_enter Try.func15, Try.ntmps15
      go_wp2_with fail
      refine (W.out _).mono ?_
      rintro e w1 ⟨rfl, hb1⟩
      have hz1 := hb1.size
      simp only [World.size_alloc] at hz1
      have b0 := (((Blk.new w 29 #[.int .i64 2, .int .i64 lo, .int .i64 hi, .int .u64 key])).alloc (.cells #[.int .i64 0, .int .i64 0, .int .i64 0, .int .u64 0] 29)).below hb1 (by simp only [World.size_alloc]; omega)
      have b1 := (Blk.new (w.alloc (.cells #[.int .i64 2, .int .i64 lo, .int .i64 hi, .int .u64 key] 29)) 29 #[.int .i64 0, .int .i64 0, .int .i64 0, .int .u64 0]).below hb1 (by simp only [World.size_alloc]; omega)
      simp only [World.size_alloc] at b1
      have c0 := fun i => b0.cell i
      have f0 := fun i => b0.frozen i
      have c1 := fun i => b1.cell i
      have f1 := fun i => b1.frozen i
      have B1 : Below w.heap.size w w1 := (((Below.refl _ _).alloc (Nat.le_refl _) (.cells #[.int .i64 2, .int .i64 lo, .int .i64 hi, .int .u64 key] 29)).alloc (by simp only [World.size_alloc]; omega) (.cells #[.int .i64 0, .int .i64 0, .int .i64 0, .int .u64 0] 29)).trans (hb1.mono (by simp only [World.size_alloc]; omega))
      go_wp2_with fail
      refine bodyPost_ret (v := .agg #[.int .i64 2, .int .i64 lo, .int .i64 mid, .int .u64 key]) (by simp [results, Try.results15, go_sem, c1]) rfl ⟨by rw [E1.out, E2.out], ?_⟩
      exact ((((B1.setCell (by simp) _).setCell (by simp) _).setCell (by simp) _).setCell (by simp) _).setCell (by simp) _
end Go.Proofs.Ytegephdgboaedaa
