/-
  Package seek and its reference: a search is kind, low, high, key.
-/
import Derived.Test.YtcmoblibjhaegaaWords
import Derived.WalkSpells
import Derived.Deep.QuietTactic
import Derived.BigQuiet
import Derived.Test.YtcmoblibjhaegaaPast
namespace Go.Proofs.Ytcmoblibjhaegaa
open Go.RowKit

def swant (lo hi : Int) : Int := if hi ≤ lo then -1 else lo + (hi - lo) / 2
def spass (kind key k : Int) : Bool := if kind = 1 then decide (k < key) else decide (k ≤ key)
def slo (kind lo hi key k : Int) : Int := if hi ≤ lo then lo else if spass kind key k = true then lo + (hi - lo) / 2 + 1 else lo
def shi (kind lo hi key k : Int) : Int := if hi ≤ lo then hi else if spass kind key k = true then hi else lo + (hi - lo) / 2
def snew (kind n : Int) : Int := if n < 0 ∨ kind < 1 ∨ 2 < kind then 0 else n

/-- What a search's ends are. -/
def SOk (lo hi : Int) : Prop := 0 ≤ lo ∧ lo ≤ hi ∧ hi ≤ 9223372036854775807

theorem SOk.next {kind lo hi key k : Int} (h : SOk lo hi) : SOk (slo kind lo hi key k) (shi kind lo hi key k) := by
  obtain ⟨h1, h2, h3⟩ := h
  unfold slo shi SOk
  by_cases c : hi ≤ lo
  · rw [if_pos c, if_pos c]; exact ⟨h1, h2, h3⟩
  · rw [if_neg c, if_neg c]
    by_cases d : spass kind key k = true
    · rw [if_pos d, if_pos d]; omega
    · rw [if_neg d, if_neg d]; omega
theorem snew_ok (kind n : Int) (h : I64 n) : SOk 0 (snew kind n) := by
  obtain ⟨h1, h2⟩ := h
  unfold snew SOk
  split <;> omega



set_option maxHeartbeats 400000 in
theorem swant_any (kind lo hi key : Int) (w : World) (h : SOk lo hi) :
    Calls Try.prog 49 #[.agg #[.int .i64 kind, .int .i64 lo, .int .i64 hi, .int .u64 key]] w fun r w' => r = .returned (.int .i64 (swant lo hi)) ∧ Below w.heap.size w w' := by
  obtain ⟨h1, h2, h3⟩ := h
  by_cases c : hi ≤ lo
  · have E := hide (show swant lo hi = -1 from if_pos c)
    go_enter Try.func49, Try.ntmps49
    go_wp2_with fail
    go_ret
    exact ⟨by rw [E.out]; rfl, (Below.refl _ _).alloc (Nat.le_refl _) _⟩
  · have E := hide (show swant lo hi = lo + (hi - lo) / 2 from if_neg c)
    go_enter Try.func49, Try.ntmps49
    go_wp2_with fail
    go_ret
    exact ⟨by rw [E.out]; rfl, (Below.refl _ _).alloc (Nat.le_refl _) _⟩

set_option maxHeartbeats 400000 in
theorem sat_any (kind lo hi key : Int) (w : World) :
    Calls Try.prog 51 #[.agg #[.int .i64 kind, .int .i64 lo, .int .i64 hi, .int .u64 key]] w fun r w' => r = .returned (.int .i64 lo) ∧ Below w.heap.size w w' := by
  go_enter Try.func51, Try.ntmps51
  go_wp2_with fail
  go_ret
  exact ⟨rfl, (Below.refl _ _).alloc (Nat.le_refl _) _⟩

set_option maxHeartbeats 400000 in
theorem spass_any (kind lo hi key k : Int) (w : World) :
    Calls Try.prog 52 #[.agg #[.int .i64 kind, .int .i64 lo, .int .i64 hi, .int .u64 key], .int .u64 k] w fun r w' => r = .returned (.bool (spass kind key k)) ∧ Below w.heap.size w w' := by
  by_cases c : kind = 1
  · have E := hide (show spass kind key k = decide (k < key) from if_pos c)
    have c' : (kind == 1) = true := by simpa using c
    clear c
    go_enter Try.func52, Try.ntmps52
    go_wp2_with fail
    go_ret
    exact ⟨by rw [E.out]; rfl, (Below.refl _ _).alloc (Nat.le_refl _) _⟩
  · have E := hide (show spass kind key k = decide (k ≤ key) from if_neg c)
    have c' : (kind == 1) = false := by simpa using c
    clear c
    go_enter Try.func52, Try.ntmps52
    go_wp2_with fail
    go_ret
    exact ⟨by rw [E.out]; rfl, (Below.refl _ _).alloc (Nat.le_refl _) _⟩

set_option maxHeartbeats 400000 in
theorem snew_any (kind n key : Int) (w : World) (hn : I64 n) :
    Calls Try.prog 46 #[.int .i64 kind, .int .i64 n, .int .u64 key] w fun r w' => r = .returned (.agg #[.int .i64 kind, .int .i64 0, .int .i64 (snew kind n), .int .u64 key]) ∧ Below w.heap.size w w' := by
  obtain ⟨h1, h2⟩ := hn
  have paths : n < 0 ∨ (0 ≤ n ∧ kind < 1) ∨ (0 ≤ n ∧ 2 < kind) ∨ (0 ≤ n ∧ kind = 1) ∨ (0 ≤ n ∧ kind = 2) := by omega
  rcases paths with c | ⟨c0, c⟩ | ⟨c0, c⟩ | ⟨c0, rfl⟩ | ⟨c0, rfl⟩
  · have E := hide (show snew kind n = 0 from if_pos (by omega))
    go_enter Try.func46, Try.ntmps46
    go_wp2_with fail
    refine bodyPost_ret (v := .agg #[.int .i64 kind, .int .i64 0, .int .i64 0, .int .u64 key]) (by simp [results, Try.results46, go_sem]) rfl ⟨by rw [E.out], (Below.refl _ _).alloc (Nat.le_refl _) _⟩
  · have E := hide (show snew kind n = 0 from if_pos (by omega))
    have t1 : (kind != 1) = true := by simp; omega
    have t2 : (kind != 2) = true := by simp; omega
    go_enter Try.func46, Try.ntmps46
    go_wp2_with fail
    refine bodyPost_ret (v := .agg #[.int .i64 kind, .int .i64 0, .int .i64 0, .int .u64 key]) (by simp [results, Try.results46, go_sem]) rfl ⟨by rw [E.out], (Below.refl _ _).alloc (Nat.le_refl _) _⟩
  · have E := hide (show snew kind n = 0 from if_pos (by omega))
    have t1 : (kind != 1) = true := by simp; omega
    have t2 : (kind != 2) = true := by simp; omega
    go_enter Try.func46, Try.ntmps46
    go_wp2_with fail
    refine bodyPost_ret (v := .agg #[.int .i64 kind, .int .i64 0, .int .i64 0, .int .u64 key]) (by simp [results, Try.results46, go_sem]) rfl ⟨by rw [E.out], (Below.refl _ _).alloc (Nat.le_refl _) _⟩
  · have E := hide (show snew 1 n = n from if_neg (by omega))
    go_enter Try.func46, Try.ntmps46
    go_wp2_with fail
    refine bodyPost_ret (v := .agg #[.int .i64 1, .int .i64 0, .int .i64 n, .int .u64 key]) (by simp [results, Try.results46, go_sem]) rfl ⟨by rw [E.out], (Below.refl _ _).alloc (Nat.le_refl _) _⟩
  · have E := hide (show snew 2 n = n from if_neg (by omega))
    go_enter Try.func46, Try.ntmps46
    go_wp2_with fail
    refine bodyPost_ret (v := .agg #[.int .i64 2, .int .i64 0, .int .i64 n, .int .u64 key]) (by simp [results, Try.results46, go_sem]) rfl ⟨by rw [E.out], (Below.refl _ _).alloc (Nat.le_refl _) _⟩

set_option maxHeartbeats 800000 in
theorem stook_any (kind lo hi key k : Int) (w : World) (h : SOk lo hi) :
    Calls Try.prog 50 #[.agg #[.int .i64 kind, .int .i64 lo, .int .i64 hi, .int .u64 key], .int .u64 k] w fun r w' => r = .returned (.agg #[.int .i64 kind, .int .i64 (slo kind lo hi key k), .int .i64 (shi kind lo hi key k), .int .u64 key]) ∧ Below w.heap.size w w' := by
  have W := hide (fun w => swant_any kind lo hi key w h)
  have P := hide (fun w => spass_any kind lo hi key k w)
  obtain ⟨h1, h2, h3⟩ := h
  by_cases c : hi ≤ lo
  · have E1 := hide (show slo kind lo hi key k = lo from if_pos c)
    have E2 := hide (show shi kind lo hi key k = hi from if_pos c)
    rw [show swant lo hi = -1 from if_pos c] at W
    clear P
    go_enter Try.func50, Try.ntmps50
    go_wp2_with fail
    refine (W.out _).mono ?_
    rintro e w1 ⟨rfl, hb1⟩
    have hz1 := hb1.size
    simp only [World.size_alloc] at hz1
    have b0 := (((Blk.new w 62 #[.int .i64 kind, .int .i64 lo, .int .i64 hi, .int .u64 key])).alloc (.cells #[.int .i64 0, .int .i64 0, .int .i64 0, .int .u64 0] 62)).below hb1 (by simp only [World.size_alloc]; omega)
    have b1 := (Blk.new (w.alloc (.cells #[.int .i64 kind, .int .i64 lo, .int .i64 hi, .int .u64 key] 62)) 62 #[.int .i64 0, .int .i64 0, .int .i64 0, .int .u64 0]).below hb1 (by simp only [World.size_alloc]; omega)
    simp only [World.size_alloc] at b1
    have c0 := fun i => b0.cell i
    have f0 := fun i => b0.frozen i
    have c1 := fun i => b1.cell i
    have f1 := fun i => b1.frozen i
    have B1 : Below w.heap.size w w1 := (((Below.refl _ _).alloc (Nat.le_refl _) (.cells #[.int .i64 kind, .int .i64 lo, .int .i64 hi, .int .u64 key] 62)).alloc (by simp only [World.size_alloc]; omega) (.cells #[.int .i64 0, .int .i64 0, .int .i64 0, .int .u64 0] 62)).trans (hb1.mono (by simp only [World.size_alloc]; omega))
    go_wp2_with fail
    refine bodyPost_ret (v := .agg #[.int .i64 kind, .int .i64 lo, .int .i64 hi, .int .u64 key]) (by simp [results, Try.results50, go_sem, c1]) rfl ⟨by rw [E1.out, E2.out], ?_⟩
    exact (((B1.setCell (by simp) _).setCell (by simp) _).setCell (by simp) _).setCell (by simp) _
  · have hm1 : 0 ≤ lo + (hi - lo) / 2 := by omega
    have hm2 : lo + (hi - lo) / 2 < hi := by omega
    rw [show swant lo hi = lo + (hi - lo) / 2 from if_neg c] at W
    by_cases hp : spass kind key k = true
    · have E1 := hide (show slo kind lo hi key k = lo + (hi - lo) / 2 + 1 by unfold slo; rw [if_neg c, if_pos hp])
      have E2 := hide (show shi kind lo hi key k = hi by unfold shi; rw [if_neg c, if_pos hp])
      rw [hp] at P
      clear hp
      generalize lo + (hi - lo) / 2 = mid at *
      go_enter Try.func50, Try.ntmps50
      go_wp2_with fail
      refine (W.out _).mono ?_
      rintro e w1 ⟨rfl, hb1⟩
      have hz1 := hb1.size
      simp only [World.size_alloc] at hz1
      have b0 := (((Blk.new w 62 #[.int .i64 kind, .int .i64 lo, .int .i64 hi, .int .u64 key])).alloc (.cells #[.int .i64 0, .int .i64 0, .int .i64 0, .int .u64 0] 62)).below hb1 (by simp only [World.size_alloc]; omega)
      have b1 := (Blk.new (w.alloc (.cells #[.int .i64 kind, .int .i64 lo, .int .i64 hi, .int .u64 key] 62)) 62 #[.int .i64 0, .int .i64 0, .int .i64 0, .int .u64 0]).below hb1 (by simp only [World.size_alloc]; omega)
      simp only [World.size_alloc] at b1
      have c0 := fun i => b0.cell i
      have f0 := fun i => b0.frozen i
      have c1 := fun i => b1.cell i
      have f1 := fun i => b1.frozen i
      have B1 : Below w.heap.size w w1 := (((Below.refl _ _).alloc (Nat.le_refl _) (.cells #[.int .i64 kind, .int .i64 lo, .int .i64 hi, .int .u64 key] 62)).alloc (by simp only [World.size_alloc]; omega) (.cells #[.int .i64 0, .int .i64 0, .int .i64 0, .int .u64 0] 62)).trans (hb1.mono (by simp only [World.size_alloc]; omega))
      go_wp2_with fail
      refine (P.out _).mono ?_
      rintro e w2 ⟨rfl, hb2⟩
      have b2 := b0.below hb2 (by omega)
      have b3 := b1.below hb2 (by omega)
      have c2 := fun i => b2.cell i
      have f2 := fun i => b2.frozen i
      have c3 := fun i => b3.cell i
      have f3 := fun i => b3.frozen i
      have B2 := B1.trans (hb2.mono (by omega))
      clear c0 f0 c1 f1
      go_wp2_with fail
      refine bodyPost_ret (v := .agg #[.int .i64 kind, .int .i64 (mid + 1), .int .i64 hi, .int .u64 key]) (by simp [results, Try.results50, go_sem, c3]) rfl ⟨by rw [E1.out, E2.out], ?_⟩
      exact ((((B2.setCell (by simp) _).setCell (by simp) _).setCell (by simp) _).setCell (by simp) _).setCell (by simp) _
    · have E1 := hide (show slo kind lo hi key k = lo by unfold slo; rw [if_neg c, if_neg hp])
      have E2 := hide (show shi kind lo hi key k = lo + (hi - lo) / 2 by unfold shi; rw [if_neg c, if_neg hp])
      rw [show spass kind key k = false by simpa using hp] at P
      clear hp
      generalize lo + (hi - lo) / 2 = mid at *
      go_enter Try.func50, Try.ntmps50
      go_wp2_with fail
      refine (W.out _).mono ?_
      rintro e w1 ⟨rfl, hb1⟩
      have hz1 := hb1.size
      simp only [World.size_alloc] at hz1
      have b0 := (((Blk.new w 62 #[.int .i64 kind, .int .i64 lo, .int .i64 hi, .int .u64 key])).alloc (.cells #[.int .i64 0, .int .i64 0, .int .i64 0, .int .u64 0] 62)).below hb1 (by simp only [World.size_alloc]; omega)
      have b1 := (Blk.new (w.alloc (.cells #[.int .i64 kind, .int .i64 lo, .int .i64 hi, .int .u64 key] 62)) 62 #[.int .i64 0, .int .i64 0, .int .i64 0, .int .u64 0]).below hb1 (by simp only [World.size_alloc]; omega)
      simp only [World.size_alloc] at b1
      have c0 := fun i => b0.cell i
      have f0 := fun i => b0.frozen i
      have c1 := fun i => b1.cell i
      have f1 := fun i => b1.frozen i
      have B1 : Below w.heap.size w w1 := (((Below.refl _ _).alloc (Nat.le_refl _) (.cells #[.int .i64 kind, .int .i64 lo, .int .i64 hi, .int .u64 key] 62)).alloc (by simp only [World.size_alloc]; omega) (.cells #[.int .i64 0, .int .i64 0, .int .i64 0, .int .u64 0] 62)).trans (hb1.mono (by simp only [World.size_alloc]; omega))
      go_wp2_with fail
      refine (P.out _).mono ?_
      rintro e w2 ⟨rfl, hb2⟩
      have b2 := b0.below hb2 (by omega)
      have b3 := b1.below hb2 (by omega)
      have c2 := fun i => b2.cell i
      have f2 := fun i => b2.frozen i
      have c3 := fun i => b3.cell i
      have f3 := fun i => b3.frozen i
      have B2 := B1.trans (hb2.mono (by omega))
      clear c0 f0 c1 f1
      go_wp2_with fail
      refine bodyPost_ret (v := .agg #[.int .i64 kind, .int .i64 lo, .int .i64 mid, .int .u64 key]) (by simp [results, Try.results50, go_sem, c3]) rfl ⟨by rw [E1.out, E2.out], ?_⟩
      exact ((((B2.setCell (by simp) _).setCell (by simp) _).setCell (by simp) _).setCell (by simp) _).setCell (by simp) _
end Go.Proofs.Ytcmoblibjhaegaa
