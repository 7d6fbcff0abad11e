/-
  seek.Of: where a search among keys comes.
-/
import Derived.Test.YtcmoblibjhaegaaSeek
import Derived.Deep.LoopGhost
import Derived.Deep.RegionWith
namespace Go.Proofs.Ytcmoblibjhaegaa
open Go.RowKit

/-- Where a search comes that is told keys; f: so many steps at most. -/
def sgo (kind key : Int) (l : List Int) : Nat → Int → Int → Int
  | 0, lo, _ => lo
  | f + 1, lo, hi => if hi ≤ lo then lo else sgo kind key l f (slo kind lo hi key (l.getD (lo + (hi - lo) / 2).toNat 0)) (shi kind lo hi key (l.getD (lo + (hi - lo) / 2).toNat 0))

theorem s_less {kind lo hi key k : Int} (h : SOk lo hi) (hlt : lo < hi) : (shi kind lo hi key k - slo kind lo hi key k).toNat < (hi - lo).toNat ∧ shi kind lo hi key k ≤ hi := by
  obtain ⟨h1, h2, h3⟩ := h
  unfold slo shi
  have c : ¬ hi ≤ lo := by omega
  rw [if_neg c, if_neg c]
  by_cases d : spass kind key k = true
  · rw [if_pos d, if_pos d]; omega
  · rw [if_neg d, if_neg d]; omega

set_option maxHeartbeats 400000 in
theorem of1_any (i : Nat) (A : Option Addr) (n c g : Nat) (l : List Int) (w : World) (hi : i < n) (hr : Reads w w.heap.size 1 A n (ints .u64 l)) (hc : w.cell? ⟨g, 0, none⟩ = some (.slice A n c)) :
    Calls Try.prog 47 #[.int .i64 i, .pointer (some ⟨g, 0, none⟩)] w fun e w' => e = .returned (.int .u64 (l.getD i 0)) ∧ w = w' := by
  obtain ⟨a, rfl, hkl, z1⟩ := hr.word hi
  have hn : n ≤ 9223372036854775807 ∨ True := .inr trivial
  have E := hide (show l.getD i 0 = l[i] by simp [List.getD, hkl])
  clear hn
  generalize l[i] = x at *
  go_enter Try.func47, Try.ntmps47
  go_wp2_with fail
  go_ret
  exact ⟨by rw [E.out]; rfl, rfl⟩

def ToIn (kind key : Int) (l : List Int) (n g : Nat) (R : Int) (w : World) (f : Nat) (i : Value) (wr : World) : Prop :=
  ∃ lo hi : Int, SOk lo hi ∧ hi ≤ n ∧ i = .int .i64 (swant lo hi) ∧ Blk wr g 62 #[.int .i64 kind, .int .i64 lo, .int .i64 hi, .int .u64 key] ∧ (hi - lo).toNat ≤ f ∧ sgo kind key l f lo hi = R ∧ Below w.heap.size w wr

set_option maxHeartbeats 1000000 in
theorem to_any (kind hi0 key : Int) (l : List Int) (fid : FuncId) (caps : Array Value) (n : Nat) (w : World) (h : SOk 0 hi0) (hn : hi0 ≤ n)
    (hcf : ∀ args w', (callFunc fid args).run Try.prog w' = .ok (.enter fid args) w')
    (hkey : ∀ i : Nat, i < n → ∀ w', Below w.heap.size w w' → Calls Try.prog fid (#[.int .i64 i] ++ caps) w' fun e w'' => e = .returned (.int .u64 (l.getD i 0)) ∧ w' = w'') :
    Calls Try.prog 45 #[.agg #[.int .i64 kind, .int .i64 0, .int .i64 hi0, .int .u64 key], .func (.func fid) #[] caps] w fun e w' => e = .returned (.int .i64 (sgo kind key l n 0 hi0)) ∧ Below w.heap.size w w' := by
  have Hk := hide hkey
  clear hkey
  have b0 := Blk.new w 62 #[.int .i64 kind, .int .i64 0, .int .i64 hi0, .int .u64 key]
  have B0 : Below w.heap.size w (w.alloc (.cells #[.int .i64 kind, .int .i64 0, .int .i64 hi0, .int .u64 key] 62)) := (Below.refl _ _).alloc (Nat.le_refl _) _
  go_enter Try.func45, Try.ntmps45
  go_wp2_with fail
  refine (swant_any kind 0 hi0 key _ h).mono ?_
  rintro e w1 ⟨rfl, hb1⟩
  have b1 := b0.below hb1 (by simp only [World.size_alloc]; omega)
  have B1 := B0.trans (hb1.mono (by simp only [World.size_alloc]; omega))
  clear b0 hb1
  go_wp2_with fail
  go_loopg [5] n (ToIn kind key l n w.heap.size (sgo kind key l n 0 hi0) w)
  case atStart => exact ⟨0, hi0, h, hn, rfl, b1, by omega, rfl, B1⟩
  case round =>
    obtain ⟨lo, hi, hok, hhn, rfl, hblk, hf, hR, hb⟩ := hrel
    have HR := hide hR
    clear hR b1 B1
    have c0 := fun i => hblk.cell i
    have f0 := fun i => hblk.frozen i
    by_cases c : hi ≤ lo
    · rw [show swant lo hi = -1 from if_pos c]
      have E := hide (show sgo kind key l gk lo hi = lo by cases gk with
        | zero => rfl
        | succ f => exact if_pos c)
      go_wp2_with fail
      refine (sat_any kind lo hi key wr).mono ?_
      rintro e w2 ⟨rfl, hb2⟩
      go_wp2_with fail
      go_ret
      exact ⟨by rw [← HR.out, E.out]; rfl, hb.trans (hb2.mono hb.size)⟩
    · obtain ⟨f, rfl⟩ : ∃ f, gk = f + 1 := ⟨gk - 1, by omega⟩
      obtain ⟨m, hm⟩ : ∃ m : Nat, lo + (hi - lo) / 2 = m := ⟨(lo + (hi - lo) / 2).toNat, by have := hok.1; omega⟩
      rw [show swant lo hi = (m : Int) from (if_neg c).trans hm]
      have E := hide (show sgo kind key l (f + 1) lo hi = sgo kind key l f (slo kind lo hi key (l.getD m 0)) (shi kind lo hi key (l.getD m 0)) by
        show (if hi ≤ lo then lo else _) = _
        rw [if_neg c, hm, Int.toNat_natCast])
      have hmn : m < n := by omega
      have K := hide (Hk.out m hmn)
      have T := hide (fun w => stook_any kind lo hi key (l.getD m 0) w hok)
      have hok2 := SOk.next (kind := kind) (key := key) (k := l.getD m 0) hok
      obtain ⟨hless, hle⟩ := s_less (kind := kind) (key := key) (k := l.getD m 0) hok (by omega)
      have W2 := hide (fun w => swant_any kind _ _ key w hok2)
      clear hm Hk
      generalize slo kind lo hi key (l.getD m 0) = lo2 at *
      generalize shi kind lo hi key (l.getD m 0) = hi2 at *
      generalize l.getD m 0 = x at *
      go_wp2_with fail
      go_region_with ((first | (with_reducible refine (K.out _ ?_).mono ?_; exact hb.drew; rintro e w' ⟨rfl, rfl⟩) | (go_at_call 50; refine (T.out _).mono ?_; rintro e w2 ⟨rfl, hb2⟩; have b2 := hblk.drew.below hb2 hblk.lt; have c2 := fun i => b2.cell i; have f2 := fun i => b2.frozen i)))
      all_goals
        have b3 := (((b2.set_ 0 (.int .i64 kind)).set_ 1 (.int .i64 lo2)).set_ 2 (.int .i64 hi2)).set_ 3 (.int .u64 key)
        have B3 := (((((hb.drew).trans (hb2.mono hb.drew.size)).setCell (p := ⟨w.heap.size, 0, none⟩) (Nat.le_refl _) (.int .i64 kind)).setCell (p := ⟨w.heap.size, 1, none⟩) (Nat.le_refl _) (.int .i64 lo2)).setCell (p := ⟨w.heap.size, 2, none⟩) (Nat.le_refl _) (.int .i64 hi2)).setCell (p := ⟨w.heap.size, 3, none⟩) (Nat.le_refl _) (.int .u64 key)
        simp only [List.setIfInBounds_toArray, List.set_cons_zero, List.set_cons_succ] at b3
        have c3 := fun i => b3.cell i
        have f3 := fun i => b3.frozen i
        go_wp2_with fail
        refine (W2.out _).mono ?_
        rintro e w3 ⟨rfl, hb3⟩
        go_wp2_with fail
        go_roundg f
        case measure => omega
        case rel => exact ⟨lo2, hi2, hok2, by omega, rfl, b3.below hb3 b3.lt, by omega, by rw [← HR.out, E.out], B3.trans (hb3.mono B3.size)⟩

def sfind (kind key : Int) (l : List Int) : Int := sgo kind key l l.length 0 (snew kind l.length)

set_option maxHeartbeats 400000 in
theorem of_any (kind key : Int) (A : Option Addr) (n c : Nat) (l : List Int) (w : World) (hn : n ≤ 9223372036854775807) (hr : Reads w w.heap.size 1 A n (ints .u64 l)) :
    Calls Try.prog 40 #[.int .i64 kind, .slice A n c, .int .u64 key] w fun e w' => e = .returned (.int .i64 (sfind kind key l)) ∧ Below w.heap.size w w' := by
  have hlen := hr.lenWord
  have hok := snew_ok kind n ⟨by omega, by omega⟩
  have hle : snew kind n ≤ n := by unfold snew; split <;> omega
  have E := hide (show sfind kind key l = sgo kind key l n 0 (snew kind n) by unfold sfind; rw [hlen])
  have Sn := hide (fun w => snew_any kind n key w ⟨by omega, by omega⟩)
  clear hlen
  generalize snew kind n = h0 at *
  go_enter Try.func40, Try.ntmps40
  go_wp2_with fail
  refine (Sn.out _).mono ?_
  rintro e w1 ⟨rfl, hb1⟩
  go_wp2_with fail
  refine (to_any kind h0 key l 47 #[.pointer (some ⟨w.heap.size, 0, none⟩)] n w1 hok hle (fun args w' => run_enter Try.func47 (by decide) (by simp [Try.f47]) args w') ?_).mono ?_
  · intro i hi w' hb'
    have B1 : Below w.heap.size w w1 := ((Below.refl _ _).alloc (Nat.le_refl _) _).trans (hb1.mono (by simp only [World.size_alloc]; omega))
    refine of1_any i A n c w.heap.size l w' hi ((hr.below (B1.trans (hb'.mono B1.size))).more (Nat.le_trans B1.size hb'.size)) ?_
    have b := ((Blk.new w 25 #[.slice A n c]).below hb1 (by simp only [World.size_alloc]; omega)).below hb' (by have := hb1.size; simp only [World.size_alloc] at this; omega)
    rw [b.cell]
    rfl
  · rintro e w2 ⟨rfl, hb2⟩
    go_wp2_with fail
    go_ret
    exact ⟨by rw [E.out]; rfl, (((Below.refl _ _).alloc (Nat.le_refl _) _).trans (hb1.mono (by simp only [World.size_alloc]; omega))).trans (hb2.mono (by have := hb1.size; simp only [World.size_alloc] at this; omega))⟩
end Go.Proofs.Ytcmoblibjhaegaa
