/-
  Slices of words: Clone, part.
-/
import Derived.Test.YtcmoblibjhaegaaMem
import Derived.Test.YtcmoblibjhaegaaPlain
import Derived.Test.YtcmoblibjhaegaaWords
import Derived.Deep.LoopGhost
import Derived.Deep.RegionWith
import Derived.Lib.SliceRun
import Derived.Lib.AppendZeros
namespace Go.Proofs.Ytcmoblibjhaegaa
open Go.RowKit

theorem infoU64 : (Try.prog.info? 22).map (fun i => (i.zero, i.size, i.bytes)) = some (some (.int .u64 0), 1, 8) := by kernel_rfl

/-- v is a slice that reads as these words, its array below block B. -/
def Sl (w : World) (B : Nat) (v : Value) (xs : List Int) : Prop := ∃ A c, v = .slice A xs.length c ∧ xs.length ≤ c ∧ c ≤ 9223372036854775807 ∧ Reads w B 1 A xs.length (ints .u64 xs)
theorem Sl.below {w w' : World} {B : Nat} {v : Value} {xs : List Int} (h : Sl w B v xs) (hb : Below B w w') : Sl w' B v xs := by
  obtain ⟨A, c, h1, h2, h3, h4⟩ := h
  exact ⟨A, c, h1, h2, h3, h4.below hb⟩
theorem Sl.more {w : World} {B B' : Nat} {v : Value} {xs : List Int} (h : Sl w B v xs) (hB : B ≤ B') : Sl w B' v xs := by
  obtain ⟨A, c, h1, h2, h3, h4⟩ := h
  exact ⟨A, c, h1, h2, h3, h4.more hB⟩
theorem ints_one {κ : IntKind} (l : List Int) : ∀ u ∈ ints κ l, u.oneCell' = true := by
  intro u hu
  unfold ints at hu
  obtain ⟨x, _, rfl⟩ := List.mem_map.1 hu
  rfl
theorem Sl.nil (w : World) (B : Nat) : Sl w B (.slice none 0 0) [] := ⟨none, 0, rfl, Nat.le_refl _, by omega, Reads.none_⟩

theorem Sl.of_own {w : World} {B n : Nat} {e : TypeId} {xs : List Int} {v : Value} (h : w.ownsRow B e 1 v n (ints .u64 xs)) : Sl w w.heap.size v xs := by
  have hn : xs.length = n := by have := h.1; rw [ints_len] at this; omega
  subst hn
  rcases h.2 with ⟨rfl, h0⟩ | ⟨g, cap, cur, rfl, _, _, hc, hm, _⟩
  · have : xs = [] := List.eq_nil_of_length_eq_zero h0
    subst this
    exact Sl.nil _ _
  · exact ⟨_, _, rfl, hc, by unfold maxLen at hm; omega, Reads.of_own h⟩

/-- v is a slice of these words, its array in a block from lo on, at its head. -/
def Own (w : World) (lo : Nat) (v : Value) (xs : List Int) : Prop := w.ownsRow lo 22 1 v xs.length (ints .u64 xs)
theorem Own.nil (w : World) (lo : Nat) : Own w lo (.slice none 0 0) [] := World.ownsRow_nil _ _ _ _
theorem Own.of {w : World} {lo n : Nat} {v : Value} {xs : List Int} (h : w.ownsRow lo 22 1 v n (ints .u64 xs)) : Own w lo v xs := by
  have hn : xs.length = n := by have := h.1; rw [ints_len] at this; omega
  unfold Own
  rw [hn]
  exact h
theorem Own.below {w w' : World} {lo : Nat} {v : Value} {xs : List Int} (h : Own w lo v xs) (hb : Below w.heap.size w w') : Own w' lo v xs := own_below h hb
theorem Own.mono {w : World} {lo lo' : Nat} {v : Value} {xs : List Int} (h : Own w lo v xs) (hl : lo' ≤ lo) : Own w lo' v xs := own_mono h hl
theorem Own.far {w : World} {lo : Nat} {v : Value} {xs : List Int} (h : Own w lo v xs) {p : Addr} (hp : p.block < lo) (u : Value) : Own (w.setCell p u) lo v xs := own_setCell_far h hp u
theorem Own.sl {w : World} {lo : Nat} {v : Value} {xs : List Int} (h : Own w lo v xs) : Sl w w.heap.size v xs := Sl.of_own h
theorem Own.drew {w : World} {lo : Nat} {v : Value} {xs : List Int} (h : Own w lo v xs) : Own w.drew lo v xs := h
theorem Own.val {w : World} {lo : Nat} {v : Value} {xs : List Int} (h : Own w lo v xs) : ∃ A c, v = .slice A xs.length c := by
  obtain ⟨A, c, h1, _⟩ := h.sl
  exact ⟨A, c, h1⟩

set_option maxHeartbeats 400000 in
theorem clone_any (v : Value) (xs : List Int) (w : World) (hl : xs.length ≤ 1000000) (h : Sl w w.heap.size v xs) :
    Calls Try.prog 33 #[v] w fun e w' => (∃ u, e = .returned u ∧ Own w' w.heap.size u xs) ∧ Below w.heap.size w w' := by
  obtain ⟨i0, hi0, hz0, hs0, hb0⟩ := info_parts infoU64
  obtain ⟨A, c, rfl, h1, h2, h3⟩ := h
  have q22 : ∀ (w : World) (a : Option Addr) (n c n' c' : Nat), (binOp .eql 25 (.slice a n c) (.slice none n' c')).run Try.prog w = .ok (.bool a.isNone) w := fun w a n c n' c' => Lib.run_eql_slice_nil w _ _ a n c n' c' Try.underlying25
  rcases A with _ | a
  · have hx : xs = [] := by
      rcases xs with _ | ⟨x, xs⟩
      · rfl
      · obtain ⟨ad, h, _⟩ := h3.2 (by simp)
        cases h
    subst hx
    go_enter Try.func33, Try.ntmps33
    go_wp2_with fail
    go_ret
    exact ⟨⟨_, rfl, Own.nil _ _⟩, Below.refl _ _⟩
  · go_enter Try.func33, Try.ntmps33
    have ho : (w.alloc (.cells #[] 22)).ownsRow w.heap.size 22 1 (.slice (some ⟨w.heap.size, 0, none⟩) 0 0) 0 [] := World.ownsRow_made w #[] 0 (Nat.le_refl _) (Nat.zero_le _) rfl
    have hr1 := h3.alloc (Nat.le_refl _) (.cells #[] 22)
    go_wp2_with (at_builtin; refine wpList_append_any _ rfl (.tmp 5) (.tmp 6) _ rfl w.heap.size 22 i0 _ 1 8 Try.underlying25 hi0 hz0 hs0 hb0 rfl (by omega) _ 0 [] rfl ho w.heap.size (some a) xs.length c (ints .u64 xs) rfl hr1 (ints_one _) (by unfold maxLen; omega) (by omega) (by simp) ?_; intro v3 w3 hown3 hg3 hat3)
    go_ret
    exact ⟨⟨_, rfl, Own.of (n := 0 + xs.length) (by simpa using hown3)⟩, below_appended ((Below.refl _ _).alloc (Nat.le_refl _) _) ho hg3 (Nat.le_refl _) (by simp)⟩

set_option maxHeartbeats 400000 in
theorem grow_any (n : Nat) (w : World) (hn : n ≤ 1000000) :
    Calls Try.prog 48 #[.slice none 0 0, .int .i64 n] w fun e w' => (∃ v, e = .returned v ∧ w'.ownsRow w.heap.size 22 1 v 0 []) ∧ Below w.heap.size w w' := by
  obtain ⟨i0, hi0, hz0, hs0, hb0⟩ := info_parts infoU64
  by_cases h0 : n = 0
  · subst h0
    go_enter Try.func48, Try.ntmps48
    go_wp2_with fail
    go_ret
    exact ⟨⟨_, rfl, World.ownsRow_nil _ _ _ _⟩, Below.refl _ _⟩
  · have hpos : 0 < n := by omega
    have hge : n ≤ grownCap w n 0 22 := grownCap_ge w _ _ _
    have hG : grownCap w n 0 22 ≤ maxLen := grownCap_le_maxLen w n 0 _ (by unfold maxLen; omega)
    have hrz := fun ty => Lib.run_append_nil_zeros (P := Try.prog) w 25 3 ty 22 i0 (.int .u64 0) .i64 .i64 Try.underlying25 Try.underlying3 hi0 hz0 n hpos (by omega) (by omega) (by rw [hb0]; omega)
    generalize grownCap w n 0 22 = G at *
    have hown : (w.drew.alloc (.cells (Builtin.zeroCells (Value.int .u64 0).cells n ++ Builtin.zeroCells (Value.int .u64 0).cells (G - n)) 22)).ownsRow w.heap.size 22 1 (.slice (some ⟨w.heap.size, 0, none⟩) 0 G) 0 [] :=
      World.ownsRow_made w.drew _ G (Nat.le_refl _) hG (by simp only [Array.size_append, size_zeroCells]; have : (Value.int .u64 0).cells.size = 1 := rfl; rw [this]; omega)
    have hbel : Below w.heap.size w (w.drew.alloc (.cells (Builtin.zeroCells (Value.int .u64 0).cells n ++ Builtin.zeroCells (Value.int .u64 0).cells (G - n)) 22)) := (Below.refl _ _).drew.alloc (Nat.le_refl _) _
    generalize w.drew.alloc (.cells (Builtin.zeroCells (Value.int .u64 0).cells n ++ Builtin.zeroCells (Value.int .u64 0).cells (G - n)) 22) = w2 at *
    have hG63 : G ≤ 9223372036854775807 := by unfold maxLen at hG; omega
    go_enter Try.func48, Try.ntmps48
    go_wp2_with (at_builtin; refine Lib.wpList_append_run _ rfl _ _ _ _ rfl _ _ rfl rfl _ _ (hrz _) ?_)
    go_ret
    exact ⟨⟨_, rfl, hown⟩, hbel⟩

def catTo (ps : List (Value × List Int)) (k : Nat) : List Int := (ps.take k).flatMap (·.2)
theorem catTo_succ (ps : List (Value × List Int)) (k : Nat) (h : k < ps.length) : catTo ps (k + 1) = catTo ps k ++ ps[k].2 := by
  unfold catTo
  rw [List.take_succ_eq_append_getElem h, List.flatMap_append]
  simp
theorem catTo_len (ps : List (Value × List Int)) (k : Nat) : (catTo ps k).length ≤ (ps.flatMap (·.2)).length := by
  have h : ps.flatMap (·.2) = catTo ps k ++ (ps.drop k).flatMap (·.2) := by
    unfold catTo
    rw [← List.flatMap_append, List.take_append_drop]
  rw [h, List.length_append]
  omega
theorem catTo_all (ps : List (Value × List Int)) (k : Nat) (h : ps.length ≤ k) : catTo ps k = ps.flatMap (·.2) := by
  unfold catTo
  rw [List.take_of_length_le h]

def CatA (ps : List (Value × List Int)) (w : World) (v3 i : Value) (wr : World) : Prop :=
  ∃ (k m : Nat), i = .int .i64 k ∧ k ≤ ps.length ∧ v3 = .int .i64 m ∧ m = (catTo ps k).length ∧ Below w.heap.size w wr
def CatB (ps : List (Value × List Int)) (w : World) (v6 i : Value) (wr : World) : Prop :=
  ∃ (k n1 : Nat), i = .int .i64 k ∧ k ≤ ps.length ∧ wr.ownsRow w.heap.size 22 1 v6 n1 (ints .u64 (catTo ps k)) ∧ n1 = (catTo ps k).length ∧ Below w.heap.size w wr

set_option maxHeartbeats 1000000 in
theorem concat_any (ps : List (Value × List Int)) (A : Option Addr) (n c : Nat) (w : World) (hn : ps.length = n) (hn9 : n ≤ 9) (hr : Reads w w.heap.size 1 A n (ps.map (·.1)))
    (hp : ∀ p ∈ ps, Sl w w.heap.size p.1 p.2) (hl : (ps.flatMap (·.2)).length ≤ 1000000) :
    Calls Try.prog 44 #[.slice A n c] w fun e w' => (∃ u, e = .returned u ∧ Own w' w.heap.size u (ps.flatMap (·.2))) ∧ Below w.heap.size w w' := by
  obtain ⟨i0, hi0, hz0, hs0, hb0⟩ := info_parts infoU64
  go_enter Try.func44, Try.ntmps44
  go_wp2_with fail
  go_loopw [3, 11] (CatA ps w) (fun _ i _ => 100 - (intOf i).toNat)
  case atStart => exact ⟨0, 0, rfl, by omega, rfl, rfl, Below.refl _ _⟩
  case round =>
    obtain ⟨k, m, rfl, hk, rfl, hm, hb⟩ := hrel
    by_cases hlt : k < n
    · obtain ⟨ad, u, rfl, hab, hu, hc⟩ := (hr.below hb).at_ hlt
      have hkl : k < ps.length := by omega
      have hu2 : (ps.map (·.1))[k]? = some ps[k].1 := by simp [hkl]
      rw [hu2] at hu
      injection hu with hu
      subst hu
      obtain ⟨A1, c1, e1, h1, h2, h3⟩ := hp ps[k] (List.getElem_mem hkl)
      rw [e1] at hc
      have hs := catTo_succ ps k hkl
      have hm1 := catTo_len ps (k + 1)
      have hm2 : (catTo ps (k + 1)).length = m + ps[k].2.length := by rw [hs, List.length_append, hm]
      clear hs e1
      generalize ps[k].2 = xs at *
      have x1 : xs.length ≤ 1000000 := by omega
      have x2 : m ≤ 1000000 := by omega
      have Hm2 := hide hm2
      clear hm2 hm hm1
      generalize xs.length = q at *
      go_wp2_with fail
      go_roundw
      case measure => simp [intOf]; omega
      case rel => exact ⟨k + 1, m + q, by go_num, by omega, by go_num, Hm2.out.symm, hb⟩
    · have hall := catTo_all ps k (by omega)
      rw [hall] at hm
      have Hm := hide hm
      have Gr := hide (grow_any m wr (by omega))
      clear hm
      go_wp2_with fail
      refine Gr.out.mono ?_
      rintro e w2 ⟨⟨v, rfl, hown⟩, hb2⟩
      have hb3 := hb.trans (hb2.mono hb.size)
      have hown := own_mono hown hb.size
      go_wp2_with fail
      go_loopw [6, 27] (CatB ps w) (fun _ i _ => 100 - (intOf i).toNat)
      case atStart => exact ⟨0, 0, rfl, by omega, hown, rfl, hb3⟩
      case round =>
        clear hown hb3 hb2
        clear hlt hall Hm Gr hk
        obtain ⟨j, n1, rfl, hk, hown, hn1, hbj⟩ := hrel
        by_cases hlt : j < n
        · obtain ⟨ad, u, rfl, hab, hu, hc⟩ := (hr.below hbj).at_ hlt
          have hkl : j < ps.length := by omega
          have hu2 : (ps.map (·.1))[j]? = some ps[j].1 := by simp [hkl]
          rw [hu2] at hu
          injection hu with hu
          subst hu
          obtain ⟨A1, c1, e1, h1, h2, h3⟩ := hp ps[j] (List.getElem_mem hkl)
          have h3 := h3.below hbj
          rw [e1] at hc
          have hs := catTo_succ ps j hkl
          have hm1 := catTo_len ps (j + 1)
          have hm2 : (catTo ps (j + 1)).length = n1 + ps[j].2.length := by rw [hs, List.length_append, hn1]
          clear e1 hu2
          generalize ps[j].2 = xs at *
          have Hs := hide hs
          have x1 : n1 + xs.length ≤ 1000000 := by omega
          have Hm2 := hide hm2
          have hsz := hbj.size
          clear hm2 hm1 hn1 hs
          go_wp2_with (at_builtin; refine wpList_append_any _ rfl (.tmp 31) (.tmp 32) _ rfl w.heap.size 22 i0 _ 1 8 Try.underlying25 hi0 hz0 hs0 hb0 rfl (by omega) u6 n1 _ rfl hown w.heap.size A1 xs.length c1 (ints .u64 xs) rfl h3 (ints_one _) (by unfold maxLen; omega) (by omega) hsz ?_; intro v3 w3 hown3 hg3 hat3)
          have hb4 := below_appended hbj hown hg3 (Nat.le_refl _) hsz
          go_roundw
          case measure => simp [intOf]; omega
          case rel => exact ⟨j + 1, n1 + xs.length, by go_num, by omega, by rw [Hs.out, ints_append]; exact hown3, Hm2.out.symm, hb4⟩
        · have hall := catTo_all ps j (by omega)
          rw [hall] at hown
          go_wp2_with fail
          go_ret
          exact ⟨⟨_, rfl, Own.of hown⟩, hbj⟩

theorem reads_prefix' {w : World} {B n m : Nat} {A : Option Addr} {l : List Int} {κ : IntKind} (h : Reads w B 1 A n (ints κ l)) (hm : m ≤ n) : Reads w B 1 A m (ints κ (l.take m)) := by
  have hl := h.lenWord
  refine ⟨by rw [ints_len, List.length_take]; omega, fun h0 => ?_⟩
  obtain ⟨ad, e, hb, hc⟩ := h.2 (by omega)
  refine ⟨ad, e, hb, fun j u hu => hc j u ?_⟩
  unfold ints at *
  rw [List.map_take, List.getElem?_take] at hu
  split at hu
  · exact hu
  · cases hu
/-- l[from:to:to], cloned. -/
def cutL (l : List Int) (a b : Nat) : List Int := (l.take b).drop a
theorem cutL_len (l : List Int) (a b : Nat) (h : b ≤ l.length) : (cutL l a b).length = b - a := by unfold cutL; simp; omega
theorem reads_window {w : World} {B n a b : Nat} {A : Option Addr} {l : List Int} {κ : IntKind} (h : Reads w B 1 A n (ints κ l)) (hab : a < b) (hb : b ≤ n) : Reads w B 1 (A.map (·.add a)) (b - a) (ints κ (cutL l a b)) := by
  have h1 := (reads_prefix' h hb).cut (k := a) (cap := b) (by omega) (Nat.le_refl _)
  rw [if_neg (by omega), Nat.mul_one] at h1
  have e : (ints κ (l.take b)).drop a = ints κ (cutL l a b) := by unfold ints cutL; rw [List.map_drop]
  rw [← e]
  exact h1
end Go.Proofs.Ytcmoblibjhaegaa
