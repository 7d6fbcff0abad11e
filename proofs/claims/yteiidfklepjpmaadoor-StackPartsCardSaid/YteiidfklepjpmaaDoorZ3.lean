/-
  gleaningref09: Do, New; memory.New.
-/
import Derived.Test.YteiidfklepjpmaaDoorZ2
import Derived.Deep.RegionHeld3
import Derived.Deep.OwnRows
import Derived.Laws.BitsAllLaws
import Derived.Laws.BitsLemmas
import Derived.WalkSpells
import Derived.Deep.LoopGhost
import Derived.Deep.RegionWith
import Derived.Maps.Own
import Derived.Maps.OwnOps
import Derived.Maps.Views
import Derived.WalkKit
namespace Go.Proofs.YteiidfklepjpmaaDoor
open Go.RowKit
attribute [local go_sem] past_cell past_cell_add

/-- Words that the call has made, as a slice. -/
def RefOk (w : World) (gr : Nat) (ws : List Int) : Prop := Blk w gr 33 (ints .u64 ws).toArray
section
variable {w w' : World} {gr : Nat} {ws : List Int}
theorem RefOk.at_ (h : RefOk w gr ws) {j : Nat} (hj : j < ws.length) : w.cell? ⟨gr, j, none⟩ = some (.int .u64 (ws.getD j 0)) := by
  rw [Blk.cell h j, List.getElem?_toArray, ints_get ws j hj, List.getD_eq_getElem?_getD, List.getElem?_eq_getElem hj]
  rfl
theorem RefOk.grown {row : Option Nat} (h : RefOk w gr ws) (hg : w.grownBy w' row) (h1 : some gr ≠ row) : RefOk w' gr ws := Blk.grown h hg h1
theorem RefOk.below (h : RefOk w gr ws) (hb : Below w.heap.size w w') : RefOk w' gr ws := h.grown (grown_below hb none) (by simp)
theorem RefOk.set_ (h : RefOk w gr ws) (j : Nat) (x : Int) : RefOk (w.setCell ⟨gr, j, none⟩ (.int .u64 x)) gr (ws.set j x) := by
  have := Blk.set_ h j (.int .u64 x)
  have e : (ints .u64 (ws.set j x)).toArray = (ints .u64 ws).toArray.setIfInBounds j (.int .u64 x) := by
    unfold ints
    rw [List.map_set, List.setIfInBounds_toArray]
  unfold RefOk
  rw [e]
  exact this
end

set_option maxHeartbeats 1000000 in
theorem rdo_out (gr c : Nat) (k a o n : Int) (N : Nat) (w : World) (h : a < 0 ∨ (0 ≤ a ∧ (N : Int) ≤ a) ∨ (0 ≤ a ∧ a < N ∧ k < 1) ∨ (0 ≤ a ∧ a < N ∧ 1 ≤ k ∧ 3 < k)) :
    Calls Tryd.prog 25 #[.slice (some ⟨gr, 0, none⟩) N c, .agg #[.int .i64 k, .int .i64 a, .int .u64 o, .int .u64 n]] w fun e w' => e = .returned (.int .u64 0) ∧ Below w.heap.size w w' := by
  have bx := Blk.new w 52 #[.int .i64 k, .int .i64 a, .int .u64 o, .int .u64 n]
  have B0 := (Below.refl w.heap.size w).alloc (Nat.le_refl _) (.cells #[.int .i64 k, .int .i64 a, .int .u64 o, .int .u64 n] 52)
  clear bx
  rcases h with h | ⟨h1, h2⟩ | ⟨h1, h2, h3⟩ | ⟨h1, h2, h3, h4⟩
  all_goals
    go_enter Tryd.func25, Tryd.ntmps25
    go_wp2_with fail
    go_ret
    exact ⟨rfl, B0⟩
set_option maxHeartbeats 1000000 in
theorem rdo_1 (gr c j : Nat) (o n : Int) (ws : List Int) (w : World) (hm : RefOk w gr ws) (hj : j < ws.length)  :
    Calls Tryd.prog 25 #[.slice (some ⟨gr, 0, none⟩) ws.length c, .agg #[.int .i64 1, .int .i64 (j : Int), .int .u64 o, .int .u64 n]] w fun e w' => e = .returned (.int .u64 (ws.getD j 0)) ∧ RefOk w' gr (ws) ∧ w.grownBy w' (some gr) := by
  skip
  have HM := hide hm
  have HJ := hide hj
  have hjz : (j : Int) < (ws.length : Int) := by omega
  have lgr : gr < w.heap.size := Blk.lt hm
  have z := hm.at_ hj
  have zf := Blk.frozen hm j
  have b0 := (Below.refl w.heap.size w).alloc (Nat.le_refl _) (.cells #[.int .i64 1, .int .i64 (j : Int), .int .u64 o, .int .u64 n] 52)
  have HB := hide b0
  clear hm hj b0
  generalize hx : ws.getD j 0 = x at *
  have HX := hide hx
  clear hx
  go_enter Tryd.func25, Tryd.ntmps25
  go_wp2_with fail
  go_ret
  exact ⟨rfl, HM.out.below HB.out, grown_below HB.out _⟩
set_option maxHeartbeats 1000000 in
theorem rdo_3n (gr c j : Nat) (o n : Int) (ws : List Int) (w : World) (hm : RefOk w gr ws) (hj : j < ws.length) (hne : ws.getD j 0 ≠ o) :
    Calls Tryd.prog 25 #[.slice (some ⟨gr, 0, none⟩) ws.length c, .agg #[.int .i64 3, .int .i64 (j : Int), .int .u64 o, .int .u64 n]] w fun e w' => e = .returned (.int .u64 (0)) ∧ RefOk w' gr (ws) ∧ w.grownBy w' (some gr) := by
  have q : (ws.getD j 0 == o) = false := by simpa using hne
  have q2 : (ws.getD j 0 != o) = true := by rw [bne, q]; rfl
  clear hne
  have HM := hide hm
  have HJ := hide hj
  have hjz : (j : Int) < (ws.length : Int) := by omega
  have lgr : gr < w.heap.size := Blk.lt hm
  have z := hm.at_ hj
  have zf := Blk.frozen hm j
  have b0 := (Below.refl w.heap.size w).alloc (Nat.le_refl _) (.cells #[.int .i64 3, .int .i64 (j : Int), .int .u64 o, .int .u64 n] 52)
  have HB := hide b0
  clear hm hj b0
  generalize hx : ws.getD j 0 = x at *
  have HX := hide hx
  clear hx
  go_enter Tryd.func25, Tryd.ntmps25
  go_wp2_with fail
  go_ret
  exact ⟨rfl, HM.out.below HB.out, grown_below HB.out _⟩
set_option maxHeartbeats 1000000 in
theorem rdo_2 (gr c j : Nat) (o n : Int) (ws : List Int) (w : World) (hm : RefOk w gr ws) (hj : j < ws.length)  :
    Calls Tryd.prog 25 #[.slice (some ⟨gr, 0, none⟩) ws.length c, .agg #[.int .i64 2, .int .i64 (j : Int), .int .u64 o, .int .u64 n]] w fun e w' => e = .returned (.int .u64 (0)) ∧ RefOk w' gr (ws.set j n) ∧ w.grownBy w' (some gr) := by
  skip
  have HM := hide hm
  have HJ := hide hj
  have hjz : (j : Int) < (ws.length : Int) := by omega
  have lgr : gr < w.heap.size := Blk.lt hm
  have z := hm.at_ hj
  have zf := Blk.frozen hm j
  have b0 := (Below.refl w.heap.size w).alloc (Nat.le_refl _) (.cells #[.int .i64 2, .int .i64 (j : Int), .int .u64 o, .int .u64 n] 52)
  have HB := hide b0
  clear hm hj b0
  generalize hx : ws.getD j 0 = x at *
  have HX := hide hx
  clear hx
  go_enter Tryd.func25, Tryd.ntmps25
  go_wp2_with fail
  go_ret
  have H1 := HM.out.set_ j n
  exact ⟨rfl, H1.below ((Below.refl _ _).alloc (Nat.le_refl _) _), grown_trans (grown_set w gr j (.int .u64 n)) (grown_below ((Below.refl _ _).alloc (Nat.le_refl _) _) _)⟩
set_option maxHeartbeats 1000000 in
theorem rdo_3y (gr c j : Nat) (o n : Int) (ws : List Int) (w : World) (hm : RefOk w gr ws) (hj : j < ws.length) (heq : ws.getD j 0 = o) :
    Calls Tryd.prog 25 #[.slice (some ⟨gr, 0, none⟩) ws.length c, .agg #[.int .i64 3, .int .i64 (j : Int), .int .u64 o, .int .u64 n]] w fun e w' => e = .returned (.int .u64 (1)) ∧ RefOk w' gr (ws.set j n) ∧ w.grownBy w' (some gr) := by
  have q : (ws.getD j 0 == o) = true := by simpa using heq
  have q2 : (ws.getD j 0 != o) = false := by rw [bne, q]; rfl
  clear heq
  have HM := hide hm
  have HJ := hide hj
  have hjz : (j : Int) < (ws.length : Int) := by omega
  have lgr : gr < w.heap.size := Blk.lt hm
  have z := hm.at_ hj
  have zf := Blk.frozen hm j
  have b0 := (Below.refl w.heap.size w).alloc (Nat.le_refl _) (.cells #[.int .i64 3, .int .i64 (j : Int), .int .u64 o, .int .u64 n] 52)
  have HB := hide b0
  clear hm hj b0
  generalize hx : ws.getD j 0 = x at *
  have HX := hide hx
  clear hx
  go_enter Tryd.func25, Tryd.ntmps25
  go_wp2_with fail
  go_ret
  have H1 := HM.out.set_ j n
  exact ⟨rfl, H1.below ((Below.refl _ _).alloc (Nat.le_refl _) _), grown_trans (grown_set w gr j (.int .u64 n)) (grown_below ((Below.refl _ _).alloc (Nat.le_refl _) _) _)⟩

theorem rdo_any (gr c : Nat) (k a o n : Int) (ws : List Int) (w : World) (hm : RefOk w gr ws) :
    Calls Tryd.prog 25 #[.slice (some ⟨gr, 0, none⟩) ws.length c, .agg #[.int .i64 k, .int .i64 a, .int .u64 o, .int .u64 n]] w fun e w' => e = .returned (.int .u64 (mDo ws k a o n).1) ∧ RefOk w' gr (mDo ws k a o n).2 ∧ w.grownBy w' (some gr) := by
  have out : ∀ e0, mDo ws k a o n = e0 → e0 = (0, ws) → (a < 0 ∨ (0 ≤ a ∧ (ws.length : Int) ≤ a) ∨ (0 ≤ a ∧ a < ws.length ∧ k < 1) ∨ (0 ≤ a ∧ a < ws.length ∧ 1 ≤ k ∧ 3 < k)) →
      Calls Tryd.prog 25 #[.slice (some ⟨gr, 0, none⟩) ws.length c, .agg #[.int .i64 k, .int .i64 a, .int .u64 o, .int .u64 n]] w fun e w' => e = .returned (.int .u64 (mDo ws k a o n).1) ∧ RefOk w' gr (mDo ws k a o n).2 ∧ w.grownBy w' (some gr) := by
    intro e0 h1 h2 h
    rw [h1, h2]
    exact (rdo_out gr c k a o n ws.length w h).mono fun e w' ⟨he, hb⟩ => ⟨he, hm.below hb, grown_below hb _⟩
  by_cases hin : 0 ≤ a ∧ a < ws.length
  · obtain ⟨j, rfl⟩ := Int.eq_ofNat_of_zero_le hin.1
    have hj : j < ws.length := by omega
    by_cases h1 : k = 1
    · subst h1
      unfold mDo
      rw [wGet_at hj]
      exact rdo_1 gr c j o n ws w hm hj
    by_cases h2 : k = 2
    · subst h2
      unfold mDo
      rw [wPut_at hj]
      exact rdo_2 gr c j o n ws w hm hj
    by_cases h3 : k = 3
    · subst h3
      unfold mDo
      rw [wGet_at hj, wPut_at hj]
      by_cases he : ws.getD j 0 = o
      · rw [if_neg (by omega), if_neg (by omega), if_pos ⟨rfl, by omega, by omega, he⟩]
        exact rdo_3y gr c j o n ws w hm hj he
      · rw [if_neg (by omega), if_neg (by omega), if_neg (fun h => he h.2.2.2)]
        exact rdo_3n gr c j o n ws w hm hj he
    · refine out _ rfl ?_ ?_
      · unfold mDo
        rw [if_neg h1, if_neg h2, if_neg (fun h => h3 h.1)]
      · by_cases hk : k < 1
        · exact .inr (.inr (.inl ⟨by omega, by omega, hk⟩))
        · exact .inr (.inr (.inr ⟨by omega, by omega, by omega, by omega⟩))
  · refine out _ rfl ?_ (by omega)
    unfold mDo wGet wPut
    rw [if_neg hin, if_neg hin]
    split
    · rfl
    · split
      · rfl
      · rw [if_neg (fun h => hin ⟨h.2.1, h.2.2.1⟩)]
end Go.Proofs.YteiidfklepjpmaaDoor

/-
  memory.New and gleaningref09.New.
-/
namespace Go.Proofs.YteiidfklepjpmaaDoor
open Go.RowKit
attribute [local go_sem] past_cell past_cell_add

def zs (n : Nat) : List Int := List.replicate n 0
theorem made_zs (n : Nat) : madeCells #[Value.int .u64 0] n = (ints .u64 (zs n)).toArray := by
  apply Array.ext
  · simp [ints, zs, madeCells]
  · intro i h1 h2
    simp [ints, zs, madeCells, Nat.mod_one]
set_option maxHeartbeats 1000000 in
theorem rnew_any (s t f l p : Int) (N : Nat) (w : World) (hN : rSize s t f l p = N) (hb : N ≤ 1000000) :
    Calls Tryd.prog 18 #[.agg #[.int .i64 s, .int .i64 t, .int .i64 f, .int .i64 l, .int .i64 p]] w fun e w' => (∃ g, e = .returned (.slice (some ⟨g, 0, none⟩) N N) ∧ RefOk w' g (zs N) ∧ w.heap.size ≤ g) ∧ Below w.heap.size w w' := by
  have S1 := hide (fun w => rsize_any s t f l p w)
  rw [hN] at S1
  have hmk := run_make_row' (P := Tryd.prog) 30 33 (.int .u64 0) 8 Tryd.underlying30 infoU64 rfl .i64 .i64 N (by omega) (by omega)
  have Z := hide (made_zs N)
  have HN := hide hN
  clear hN
  generalize madeCells #[Value.int .u64 0] N = cs at *
  go_enter Tryd.func18, Tryd.ntmps18
  go_wp2_with fail
  have B0 := (Below.refl w.heap.size w).alloc (Nat.le_refl _) (.cells #[.int .i64 s, .int .i64 t, .int .i64 f, .int .i64 l, .int .i64 p] 23)
  refine (S1.out _).mono ?_
  rintro e w1 ⟨rfl, hb1⟩
  replace B0 := B0.trans (hb1.mono B0.size)
  clear hb1
  go_wp2_with fail
  go_ret
  refine ⟨⟨_, rfl, ?_, B0.size⟩, B0.alloc B0.size _⟩
  have := Blk.new w1 33 cs
  rw [Z.out] at this ⊢
  exact this
end Go.Proofs.YteiidfklepjpmaaDoor

/-
  The words of a machine that begins, in plain Lean.
-/
namespace Go.Proofs.YteiidfklepjpmaaDoor
open Go.RowKit

/-- The slot of a word, and its place within it. -/
def oOf (t f j : Int) : Int := (j - (3 + 3 * t)) / (3 + 2 * f)
def rOf (t f j : Int) : Int := (j - (3 + 3 * t)) % (3 + 2 * f)
theorem at_or {t f j k c : Int} (hc : 0 ≤ c) (hc2 : c < 3 + 2 * f) : j = nB t f k + c ↔ oOf t f j = k ∧ rOf t f j = c := by
  unfold nB oOf rOf
  constructor
  · rintro rfl
    have e : 3 + 3 * t + k * (3 + 2 * f) + c - (3 + 3 * t) = k * (3 + 2 * f) + c := by omega
    rw [e]
    exact div_back hc hc2
  · rintro ⟨h1, h2⟩
    have e := Int.mul_ediv_add_emod (j - (3 + 3 * t)) (3 + 2 * f)
    rw [h1, h2, Int.mul_comm] at e
    omega
theorem r_bd {t f j : Int} (hf : 4 ≤ f) : 0 ≤ rOf t f j ∧ rOf t f j < 3 + 2 * f := ⟨Int.emod_nonneg _ (by omega), Int.emod_lt_of_pos _ (by omega)⟩
def bOR (s f k o r : Int) : Int :=
  if o = 0 ∧ r = 1 then 3 else if o = 0 ∧ r = 3 + f then 65537 else if o = 1 ∧ r = 0 then 1099511627776
  else if 2 ≤ o ∧ o < k ∧ r = 0 then 2 else if 2 ≤ o ∧ o < k ∧ o < s ∧ r = 2 then o + 1 else 0
/-- The slots below k are laid. -/
def bK (s t f k j : Int) : Int := bOR s f k (oOf t f j) (rOf t f j)
def BegK (s t f k : Int) (ws : List Int) : Prop := ∀ j : Nat, j < ws.length → ws.getD j 0 = bK s t f k j
theorem getD_set (l : List Int) (p j : Nat) (x : Int) (hp : p < l.length) : (l.set p x).getD j 0 = if j = p then x else l.getD j 0 := by
  rw [List.getD_eq_getElem?_getD, List.getElem?_set, List.getD_eq_getElem?_getD]
  by_cases h : p = j
  · subst h
    rw [if_pos rfl, if_pos hp, if_pos rfl]
    rfl
  · rw [if_neg h, if_neg (fun e => h e.symm)]
theorem getD_zs (n j : Nat) : (zs n).getD j 0 = 0 := by
  unfold zs
  rw [List.getD_eq_getElem?_getD, List.getElem?_replicate]
  split <;> rfl
theorem zs_len (n : Nat) : (zs n).length = n := by simp [zs]
theorem bK_step {s t f k j : Int} (hf : 4 ≤ f) (hk : 2 ≤ k) : bK s t f (k + 1) j = if j = nB t f k then 2 else if k < s ∧ j = nB t f k + 2 then k + 1 else bK s t f k j := by
  have h1 := at_or (t := t) (f := f) (j := j) (k := k) (c := 0) (by omega) (by omega)
  have h2 := at_or (t := t) (f := f) (j := j) (k := k) (c := 2) (by omega) (by omega)
  rw [Int.add_zero] at h1
  unfold bK bOR
  simp only [h1, h2]
  generalize oOf t f j = o
  generalize rOf t f j = r
  repeat' split
  all_goals first | rfl | omega
/-- All words. -/
def begAt (s t f j : Int) : Int := if j = 2 then (if 2 ≤ s then 2 else 0) else bK s t f (s + 1) j
def begL (s t f : Int) : List Int := (List.range (laySize s t f).toNat).map fun (j : Nat) => begAt s t f (j : Int)
theorem begL_len (s t f : Int) : (begL s t f).length = (laySize s t f).toNat := by simp [begL]
theorem begL_at {s t f : Int} {j : Nat} (h : j < (begL s t f).length) : (begL s t f).getD j 0 = begAt s t f j := by
  rw [List.getD_eq_getElem?_getD, List.getElem?_eq_getElem h]
  simp [begL]
theorem begL_of {s t f : Int} {ws : List Int} (hl : ws.length = (laySize s t f).toNat) (h : ∀ j : Nat, j < ws.length → ws.getD j 0 = begAt s t f j) : ws = begL s t f := by
  apply List.ext_getElem (by rw [hl, begL_len])
  intro j h1 h2
  have e1 := h j h1
  have e2 := begL_at h2
  rw [List.getD_eq_getElem?_getD, List.getElem?_eq_getElem h1] at e1
  rw [List.getD_eq_getElem?_getD, List.getElem?_eq_getElem h2] at e2
  exact e1.trans e2.symm
theorem bOR_bd {s f k o r : Int} (hs : s ≤ 1000) : 0 ≤ bOR s f k o r ∧ bOR s f k o r ≤ 1099511627776 := by
  unfold bOR
  repeat' split
  all_goals omega
theorem begL_w64 {s t f : Int} (hs : s ≤ 1000) : AllW64 (begL s t f) := by
  intro x hx
  simp only [begL, List.mem_map] at hx
  obtain ⟨j, _, rfl⟩ := hx
  unfold begAt bK
  have := bOR_bd (s := s) (f := f) (k := s + 1) (o := oOf t f j) (r := rOf t f j) hs
  constructor
  · repeat' split
    all_goals omega
  · repeat' split
    all_goals omega
end Go.Proofs.YteiidfklepjpmaaDoor

/-
  Fields of bits, in plain numbers.
-/
namespace Go.Proofs.YteiidfklepjpmaaDoor

/-- How many bits a field has; what it tells; a word with another field. -/
def fcut (at_ size : Int) : Int := if at_ < 0 ∨ 63 < at_ ∨ size < 1 then 0 else min size (64 - at_)
def fget (w at_ size : Int) : Int := if at_ < 0 ∨ 63 < at_ ∨ size < 1 then 0 else w / 2 ^ at_.toNat % 2 ^ (min size (64 - at_)).toNat
def fput (w at_ size v : Int) : Int :=
  if at_ < 0 ∨ 63 < at_ ∨ size < 1 then w else w - w / 2 ^ at_.toNat % 2 ^ (min size (64 - at_)).toNat * 2 ^ at_.toNat + v % 2 ^ (min size (64 - at_)).toNat * 2 ^ at_.toNat
def fmask (size : Int) : Int := if size < 1 then 0 else if 64 ≤ size then 18446744073709551615 else 2 ^ size.toNat - 1

theorem pow_split {a n : Nat} (h : a + n ≤ 64) : (2 : Nat) ^ a * 2 ^ n * 2 ^ (64 - a - n) = 18446744073709551616 := by
  rw [← Nat.pow_add, ← Nat.pow_add]
  have : a + n + (64 - a - n) = 64 := by omega
  rw [this]

/-- The middle of a word: below, the field, above. -/
theorem nat_parts (w a n : Nat) : w = 2 ^ a * (2 ^ n * (w / 2 ^ a / 2 ^ n) + w / 2 ^ a % 2 ^ n) + w % 2 ^ a := by
  rw [Nat.div_add_mod (w / 2 ^ a) (2 ^ n), Nat.div_add_mod w (2 ^ a)]

theorem nat_put_sum (w v a n : Nat) : w - w / 2 ^ a % 2 ^ n * 2 ^ a + v % 2 ^ n * 2 ^ a = 2 ^ a * (2 ^ n * (w / 2 ^ a / 2 ^ n) + v % 2 ^ n) + w % 2 ^ a := by
  have h := nat_parts w a n
  generalize w / 2 ^ a / 2 ^ n = p at *
  generalize w / 2 ^ a % 2 ^ n = q at *
  generalize w % 2 ^ a = r at *
  generalize v % 2 ^ n = s at *
  generalize 2 ^ n * p = t at *
  rw [Nat.mul_add] at *
  rw [Nat.mul_comm q, Nat.mul_comm s]
  omega

theorem nat_put_bit (w v a n i : Nat) : (2 ^ a * (2 ^ n * (w / 2 ^ a / 2 ^ n) + v % 2 ^ n) + w % 2 ^ a).testBit i = if a ≤ i ∧ i < a + n then v.testBit (i - a) else w.testBit i := by
  rw [Nat.testBit_two_pow_mul_add _ (Nat.mod_lt _ (Nat.two_pow_pos a))]
  by_cases h : i < a
  · rw [if_pos h, if_neg (by omega), Nat.testBit_mod_two_pow]
    simp [h]
  · rw [if_neg h, Nat.testBit_two_pow_mul_add _ (Nat.mod_lt _ (Nat.two_pow_pos n))]
    by_cases h2 : i - a < n
    · rw [if_pos h2, if_pos (by omega), Nat.testBit_mod_two_pow]
      simp [h2]
    · rw [if_neg h2, if_neg (by omega), Nat.testBit_div_two_pow, Nat.testBit_div_two_pow]
      congr 1
      omega

theorem mask_bit (a n i : Nat) : (2 ^ a * (2 ^ n - 1)).testBit i = (decide (a ≤ i) && decide (i < a + n)) := by
  rw [Nat.testBit_two_pow_mul, Nat.testBit_two_pow_sub_one]
  by_cases h : a ≤ i
  · have : (i - a < n) = (i < a + n) := by simp; omega
    simp [h, this]
  · simp [h]

theorem nat_put (w v a n : Nat) (hw : w < 18446744073709551616) (h : a + n ≤ 64) :
    ((w &&& (18446744073709551615 - 2 ^ a * (2 ^ n - 1))) ||| ((v * 2 ^ a % 18446744073709551616) &&& 2 ^ a * (2 ^ n - 1))) = w - w / 2 ^ a % 2 ^ n * 2 ^ a + v % 2 ^ n * 2 ^ a := by
  rw [nat_put_sum]
  have hm : 2 ^ a * (2 ^ n - 1) < 2 ^ 64 := by
    have h1 : 2 ^ a * (2 ^ n - 1) < 2 ^ a * 2 ^ n := Nat.mul_lt_mul_of_pos_left (by have := Nat.two_pow_pos n; omega) (Nat.two_pow_pos a)
    rw [← Nat.pow_add] at h1
    exact Nat.lt_of_lt_of_le h1 (Nat.pow_le_pow_right (by omega) h)
  apply Nat.eq_of_testBit_eq
  intro i
  have e1 : (18446744073709551615 : Nat) - 2 ^ a * (2 ^ n - 1) = 2 ^ 64 - (2 ^ a * (2 ^ n - 1) + 1) := by omega
  have e2 : (18446744073709551616 : Nat) = 2 ^ 64 := by decide
  rw [nat_put_bit, Nat.testBit_or, Nat.testBit_and, Nat.testBit_and, e1, Nat.testBit_two_pow_sub_succ hm, mask_bit, e2, Nat.testBit_mod_two_pow, Nat.mul_comm v, Nat.testBit_two_pow_mul]
  have hwi : 64 ≤ i → w.testBit i = false := fun hi => Nat.testBit_lt_two_pow (Nat.lt_of_lt_of_le (by rw [← e2]; exact hw) (Nat.pow_le_pow_right (by omega) hi))
  by_cases c1 : a ≤ i <;> by_cases c2 : i < a + n <;> simp [c1, c2]
  · intro _; omega
  · intro hb; by_cases hi : i < 64
    · exact hi
    · rw [hwi (by omega)] at hb; cases hb
  · intro hb; by_cases hi : i < 64
    · exact hi
    · rw [hwi (by omega)] at hb; cases hb
  · intro hb; by_cases hi : i < 64
    · exact hi
    · rw [hwi (by omega)] at hb; cases hb

theorem fmask_nat {n : Nat} (h1 : 1 ≤ n) (h2 : n ≤ 64) : fmask (n : Int) = ((2 ^ n - 1 : Nat) : Int) := by
  unfold fmask
  rw [if_neg (by omega)]
  by_cases h : n = 64
  · subst h; rw [if_pos (by decide)]; decide
  · rw [if_neg (by omega), Int.toNat_natCast]
    have := Nat.two_pow_pos n
    rw [Int.natCast_sub (by omega)]
    simp

/-- A field that is there, in natural numbers. -/
theorem field_nat {at_ size : Int} (hc : ¬ (at_ < 0 ∨ 63 < at_ ∨ size < 1)) : ∃ a n : Nat, at_ = a ∧ a ≤ 63 ∧ 1 ≤ n ∧ a + n ≤ 64 ∧ min size (64 - at_) = n ∧ fcut at_ size = n := by
  refine ⟨at_.toNat, (min size (64 - at_)).toNat, by omega, by omega, by omega, by omega, by omega, ?_⟩
  unfold fcut
  rw [if_neg hc]
  omega

theorem fput_nat {a n : Nat} {size : Int} (x v : Nat) (hc : ¬ ((a : Int) < 0 ∨ 63 < (a : Int) ∨ size < 1)) (hn : min size (64 - (a : Int)) = n) :
    fput x a size v = ((x - x / 2 ^ a % 2 ^ n * 2 ^ a + v % 2 ^ n * 2 ^ a : Nat) : Int) := by
  unfold fput
  rw [if_neg hc, hn, Int.toNat_natCast, Int.toNat_natCast]
  have hle : x / 2 ^ a % 2 ^ n * 2 ^ a ≤ x := by
    have h := nat_parts x a n
    rw [Nat.mul_add] at h
    rw [Nat.mul_comm]
    omega
  rw [Int.natCast_add, Int.natCast_sub hle]
  simp
theorem fget_nat {a n : Nat} {size : Int} (x : Nat) (hc : ¬ ((a : Int) < 0 ∨ 63 < (a : Int) ∨ size < 1)) (hn : min size (64 - (a : Int)) = n) :
    fget x a size = ((x / 2 ^ a % 2 ^ n : Nat) : Int) := by
  unfold fget
  rw [if_neg hc, hn, Int.toNat_natCast, Int.toNat_natCast]
  simp

theorem mask_shift {a n : Nat} (h1 : 1 ≤ n) (h : a + n ≤ 64) : IntKind.u64.wrap (fmask (n : Int) * 2 ^ a) = ((2 ^ a * (2 ^ n - 1) : Nat) : Int) := by
  rw [fmask_nat h1 (by omega), IntKind.wrap_u64]
  have hm : 2 ^ a * (2 ^ n - 1) < 2 ^ 64 := by
    have h1 : 2 ^ a * (2 ^ n - 1) < 2 ^ a * 2 ^ n := Nat.mul_lt_mul_of_pos_left (by have := Nat.two_pow_pos n; omega) (Nat.two_pow_pos a)
    rw [← Nat.pow_add] at h1
    exact Nat.lt_of_lt_of_le h1 (Nat.pow_le_pow_right (by omega) h)
  have e : ((2 ^ n - 1 : Nat) : Int) * 2 ^ a = ((2 ^ a * (2 ^ n - 1) : Nat) : Int) := by
    rw [Nat.mul_comm]; simp
  rw [e]
  omega
theorem word_shift (v a : Nat) : IntKind.u64.wrap ((v : Int) * 2 ^ a) = ((v * 2 ^ a % 18446744073709551616 : Nat) : Int) := by
  rw [IntKind.wrap_u64]
  simp

theorem put_bits {x at_ size v : Int} (hx : W64 x) (hv : W64 v) (hc : ¬ (at_ < 0 ∨ 63 < at_ ∨ size < 1)) :
    bits .or .u64 (bits .andNot .u64 x (IntKind.u64.wrap (fmask (fcut at_ size) * 2 ^ at_.toNat))) (bits .and .u64 (IntKind.u64.wrap (v * 2 ^ at_.toNat)) (IntKind.u64.wrap (fmask (fcut at_ size) * 2 ^ at_.toNat))) = fput x at_ size v := by
  obtain ⟨a, n, rfl, ha, hn, han, hmin, hcut⟩ := field_nat hc
  obtain ⟨x, rfl⟩ := Int.eq_ofNat_of_zero_le hx.1
  obtain ⟨v, rfl⟩ := Int.eq_ofNat_of_zero_le hv.1
  have hx2 := hx.2
  have hm : 2 ^ a * (2 ^ n - 1) < 2 ^ 64 := by
    have h1 : 2 ^ a * (2 ^ n - 1) < 2 ^ a * 2 ^ n := Nat.mul_lt_mul_of_pos_left (by have := Nat.two_pow_pos n; omega) (Nat.two_pow_pos a)
    rw [← Nat.pow_add] at h1
    exact Nat.lt_of_lt_of_le h1 (Nat.pow_le_pow_right (by omega) han)
  rw [fput_nat x v hc hmin, hcut, Int.toNat_natCast, mask_shift hn han, word_shift, u64_andNot_nat _ _ (by omega) (by omega), u64_and_nat _ _ (by omega) (by omega), u64_or_nat, nat_put x v a n (by omega) han]
  · exact Nat.lt_of_le_of_lt Nat.and_le_left (by omega)
  · exact Nat.lt_of_le_of_lt Nat.and_le_left (by omega)

theorem get_bits {x at_ size : Int} (hx : W64 x) (hc : ¬ (at_ < 0 ∨ 63 < at_ ∨ size < 1)) :
    bits .and .u64 (x / 2 ^ at_.toNat) (fmask (fcut at_ size)) = fget x at_ size := by
  obtain ⟨a, n, rfl, ha, hn, han, hmin, hcut⟩ := field_nat hc
  obtain ⟨x, rfl⟩ := Int.eq_ofNat_of_zero_le hx.1
  have hx2 := hx.2
  have h1 : x / 2 ^ a ≤ x := Nat.div_le_self _ _
  have h2 : (2 : Nat) ^ n ≤ 2 ^ 64 := Nat.pow_le_pow_right (by omega) (by omega)
  rw [fget_nat x hc hmin, hcut, Int.toNat_natCast, fmask_nat hn (by omega)]
  have e : (x : Int) / 2 ^ a = ((x / 2 ^ a : Nat) : Int) := by simp
  rw [e, u64_and_nat _ _ (by omega) (by omega), Nat.and_two_pow_sub_one_eq_mod]

theorem fget_bound {x at_ size : Int} (hx : W64 x) : W64 (fget x at_ size) := by
  by_cases hc : at_ < 0 ∨ 63 < at_ ∨ size < 1
  · have : fget x at_ size = 0 := if_pos hc
    rw [this]; exact ⟨by omega, by omega⟩
  · obtain ⟨a, n, rfl, ha, hn, han, hmin, hcut⟩ := field_nat hc
    obtain ⟨x, rfl⟩ := Int.eq_ofNat_of_zero_le hx.1
    rw [fget_nat x hc hmin]
    have h1 : x / 2 ^ a ≤ x := Nat.div_le_self _ _
    have h2 : x / 2 ^ a % 2 ^ n ≤ x / 2 ^ a := Nat.mod_le _ _
    have := hx.2
    exact ⟨by omega, by omega⟩
theorem fput_bound {x at_ size v : Int} (hx : W64 x) (hv : W64 v) : W64 (fput x at_ size v) := by
  by_cases hc : at_ < 0 ∨ 63 < at_ ∨ size < 1
  · have : fput x at_ size v = x := if_pos hc
    rw [this]; exact hx
  · obtain ⟨a, n, rfl, ha, hn, han, hmin, hcut⟩ := field_nat hc
    obtain ⟨x, rfl⟩ := Int.eq_ofNat_of_zero_le hx.1
    obtain ⟨v, rfl⟩ := Int.eq_ofNat_of_zero_le hv.1
    rw [fput_nat x v hc hmin, nat_put_sum]
    have h2 : 2 ^ a * (2 ^ n * (x / 2 ^ a / 2 ^ n) + v % 2 ^ n) + x % 2 ^ a < 2 ^ 64 := by
      apply Nat.lt_pow_two_of_testBit
      intro i hi
      rw [nat_put_bit, if_neg (by omega)]
      have := hx.2
      exact Nat.testBit_lt_two_pow (Nat.lt_of_lt_of_le (show x < 2 ^ 64 by omega) (Nat.pow_le_pow_right (by omega) hi))
    exact ⟨by omega, by omega⟩
theorem fmask_bound (n : Int) : W64 (fmask n) := by
  unfold fmask
  by_cases h : n < 1
  · rw [if_pos h]; exact ⟨by omega, by omega⟩
  · rw [if_neg h]
    by_cases h2 : 64 ≤ n
    · rw [if_pos h2]; exact ⟨by omega, by omega⟩
    · rw [if_neg h2]
      have h3 : (2 : Nat) ^ n.toNat ≤ 2 ^ 63 := Nat.pow_le_pow_right (by omega) (by omega)
      have h0 : 0 < (2 : Nat) ^ n.toNat := Nat.two_pow_pos _
      have e : (2 : Int) ^ n.toNat = ((2 ^ n.toNat : Nat) : Int) := by simp
      rw [e]
      exact ⟨by omega, by omega⟩

/-- Fields at given places: 'by simpa using fget_at w 16 48 (by omega)'. -/
theorem fget_at (w : Int) (a n : Nat) (h : 1 ≤ n ∧ a + n ≤ 64) : fget w a n = w / 2 ^ a % 2 ^ n := by
  unfold fget
  rw [if_neg (by omega)]
  have e : (min (n : Int) (64 - (a : Int))).toNat = n := by omega
  rw [e, Int.toNat_natCast]
theorem fput_at (w v : Int) (a n : Nat) (h : 1 ≤ n ∧ a + n ≤ 64) : fput w a n v = w - w / 2 ^ a % 2 ^ n * 2 ^ a + v % 2 ^ n * 2 ^ a := by
  unfold fput
  rw [if_neg (by omega)]
  have e : (min (n : Int) (64 - (a : Int))).toNat = n := by omega
  rw [e, Int.toNat_natCast]
end Go.Proofs.YteiidfklepjpmaaDoor

/-
  Package field: contracts.
-/
namespace Go.Proofs.YteiidfklepjpmaaDoor
open Go.RowKit

set_option maxHeartbeats 400000 in
theorem cut_any (at_ size : Int) (w : World) (ha : I64 at_) (hs : I64 size) :
    Calls Tryd.prog 59 #[.int .i64 at_, .int .i64 size] w fun r w' => r = .returned (.int .i64 (fcut at_ size)) ∧ w = w' := by
  obtain ⟨h0, h1⟩ := ha
  obtain ⟨h2, h3⟩ := hs
  by_cases hc : at_ < 0 ∨ 63 < at_ ∨ size < 1
  · have e : fcut at_ size = 0 := if_pos hc
    rw [e]
    clear e
    rcases hc with hc | hc | hc
    · go_enter Tryd.func59, Tryd.ntmps59
      go_wp2
      go_ret
      exact ⟨rfl, rfl⟩
    · by_cases h : at_ < 0
      · omega
      go_enter Tryd.func59, Tryd.ntmps59
      go_wp2
      go_ret
      exact ⟨rfl, rfl⟩
    · by_cases h : at_ < 0
      · go_enter Tryd.func59, Tryd.ntmps59
        go_wp2
        go_ret
        exact ⟨rfl, rfl⟩
      by_cases h' : 63 < at_
      · go_enter Tryd.func59, Tryd.ntmps59
        go_wp2
        go_ret
        exact ⟨rfl, rfl⟩
      go_enter Tryd.func59, Tryd.ntmps59
      go_wp2
      go_ret
      exact ⟨rfl, rfl⟩
  · have e : fcut at_ size = min size (64 - at_) := if_neg hc
    have E := hide e
    clear e
    have h4 : 0 ≤ at_ := by omega
    have h5 : at_ ≤ 63 := by omega
    have h6 : 1 ≤ size := by omega
    clear hc
    by_cases hm : size ≤ 64 - at_
    · go_enter Tryd.func59, Tryd.ntmps59
      go_wp2
      go_ret
      exact ⟨by rw [E.out, Int.min_eq_left hm]; rfl, rfl⟩
    · go_enter Tryd.func59, Tryd.ntmps59
      go_wp2
      go_ret
      exact ⟨by rw [E.out, Int.min_eq_right (by omega)]; rfl, rfl⟩

set_option maxHeartbeats 400000 in
theorem mask_any (size : Int) (w : World) (hs : I64 size) :
    Calls Tryd.prog 60 #[.int .i64 size] w fun r w' => r = .returned (.int .u64 (fmask size)) ∧ w = w' := by
  obtain ⟨h2, h3⟩ := hs
  by_cases h0 : size < 1
  · have E := hide (show fmask size = 0 from if_pos h0)
    go_enter Tryd.func60, Tryd.ntmps60
    go_wp2
    go_ret
    exact ⟨by rw [E.out]; rfl, rfl⟩
  by_cases h1 : 64 ≤ size
  · have E := hide (show fmask size = 18446744073709551615 by unfold fmask; rw [if_neg h0, if_pos h1])
    go_enter Tryd.func60, Tryd.ntmps60
    go_wp2
    go_ret
    exact ⟨by rw [E.out]; rfl, rfl⟩
  · have E := hide (show fmask size = 2 ^ size.toNat - 1 by unfold fmask; rw [if_neg h0, if_neg h1])
    have h4 : 1 ≤ size := by omega
    have h5 : size ≤ 63 := by omega
    have B := hide (show IntKind.u64.wrap (IntKind.u64.wrap (2 ^ size.toNat) - 1) = 2 ^ size.toNat - 1 by
      have : (2 : Nat) ^ size.toNat ≤ 2 ^ 63 := Nat.pow_le_pow_right (by omega) (by omega)
      have h0 : 0 < (2 : Nat) ^ size.toNat := Nat.two_pow_pos _
      have e : (2 : Int) ^ size.toNat = ((2 ^ size.toNat : Nat) : Int) := by simp
      rw [e]
      generalize (2 : Nat) ^ size.toNat = p at *
      simp only [IntKind.wrap_u64]
      omega)
    go_enter Tryd.func60, Tryd.ntmps60
    go_wp2
    go_ret
    exact ⟨by rw [E.out, ← B.out]; rfl, rfl⟩

set_option maxHeartbeats 400000 in
theorem put_any (x at_ size v : Int) (w : World) (hx : W64 x) (ha : I64 at_) (hs : I64 size) (hv : W64 v) :
    Calls Tryd.prog 61 #[.int .u64 x, .int .i64 at_, .int .i64 size, .int .u64 v] w fun r w' => r = .returned (.int .u64 (fput x at_ size v)) ∧ w = w' := by
  by_cases hc : at_ < 0 ∨ 63 < at_ ∨ size < 1
  · have e : fcut at_ size = 0 := if_pos hc
    have e2 : fput x at_ size v = x := if_pos hc
    rw [e2]
    clear e2
    have C := hide (cut_any at_ size)
    rw [e] at C
    clear e
    go_enter Tryd.func61, Tryd.ntmps61
    go_wp2_with fail
    refine (C.out _ ha hs).mono ?_
    rintro e w' ⟨rfl, rfl⟩
    go_wp2_with fail
    go_ret
    exact ⟨rfl, rfl⟩
  · have P := hide (put_bits hx hv hc)
    have C := hide (cut_any at_ size w ha hs)
    have n1 : 1 ≤ fcut at_ size := by unfold fcut; rw [if_neg hc]; omega
    have n2 : fcut at_ size ≤ 64 := by unfold fcut; rw [if_neg hc]; omega
    generalize fcut at_ size = n at *
    have M := hide (mask_any n w ⟨by omega, by omega⟩)
    have h4 : 0 ≤ at_ := by omega
    have h5 : at_ ≤ 63 := by omega
    obtain ⟨m1, m2⟩ := fmask_bound n
    generalize fmask n = m at *
    obtain ⟨h6, h7⟩ := hx
    obtain ⟨h8, h9⟩ := hv
    go_enter Tryd.func61, Tryd.ntmps61
    go_wp2_with fail
    refine C.out.mono ?_
    rintro e w' ⟨rfl, rfl⟩
    go_wp2_with fail
    refine M.out.mono ?_
    rintro e w' ⟨rfl, rfl⟩
    go_wp2_with fail
    go_ret
    exact ⟨by rw [← P.out]; rfl, rfl⟩

set_option maxHeartbeats 400000 in
theorem get_any (x at_ size : Int) (w : World) (hx : W64 x) (ha : I64 at_) (hs : I64 size) :
    Calls Tryd.prog 51 #[.int .u64 x, .int .i64 at_, .int .i64 size] w fun r w' => r = .returned (.int .u64 (fget x at_ size)) ∧ w = w' := by
  by_cases hc : at_ < 0 ∨ 63 < at_ ∨ size < 1
  · have e : fcut at_ size = 0 := if_pos hc
    have e2 : fget x at_ size = 0 := if_pos hc
    rw [e2]
    clear e2
    have C := hide (cut_any at_ size)
    rw [e] at C
    clear e
    go_enter Tryd.func51, Tryd.ntmps51
    go_wp2_with fail
    refine (C.out _ ha hs).mono ?_
    rintro e w' ⟨rfl, rfl⟩
    go_wp2_with fail
    go_ret
    exact ⟨rfl, rfl⟩
  · have P := hide (get_bits hx hc)
    have C := hide (cut_any at_ size w ha hs)
    have n1 : 1 ≤ fcut at_ size := by unfold fcut; rw [if_neg hc]; omega
    have n2 : fcut at_ size ≤ 64 := by unfold fcut; rw [if_neg hc]; omega
    generalize fcut at_ size = n at *
    have M := hide (mask_any n w ⟨by omega, by omega⟩)
    have h4 : 0 ≤ at_ := by omega
    have h5 : at_ ≤ 63 := by omega
    obtain ⟨m1, m2⟩ := fmask_bound n
    generalize fmask n = m at *
    obtain ⟨h6, h7⟩ := hx
    go_enter Tryd.func51, Tryd.ntmps51
    go_wp2_with fail
    refine C.out.mono ?_
    rintro e w' ⟨rfl, rfl⟩
    go_wp2_with fail
    refine M.out.mono ?_
    rintro e w' ⟨rfl, rfl⟩
    go_wp2_with fail
    go_ret
    exact ⟨by rw [← P.out]; rfl, rfl⟩

end Go.Proofs.YteiidfklepjpmaaDoor

/-
  Version words, plainly.
-/
namespace Go.Proofs.YteiidfklepjpmaaDoor
open Go.RowKit

def b2i (b : Bool) : Int := if b = true then 1 else 0
def vgen (w : Int) : Int := w / 1099511627776
def vcnt (w : Int) : Int := w / 4 % 274877906944
def vdead (w : Int) : Bool := w / 2 % 2 == 1
def vlocked (w : Int) : Bool := w % 2 == 1
def vpack (g c : Int) (d l : Bool) : Int := g % 16777216 * 1099511627776 + c % 274877906944 * 4 + b2i d * 2 + b2i l

theorem b2i_bound (b : Bool) : 0 ≤ b2i b ∧ b2i b ≤ 1 := by cases b <;> decide
theorem vpack_bound (g c : Int) (d l : Bool) : W64 (vpack g c d l) := by
  have := b2i_bound d
  have := b2i_bound l
  unfold vpack
  exact ⟨by omega, by omega⟩
theorem vgen_pack (g c : Int) (d l : Bool) : vgen (vpack g c d l) = g % 16777216 := by
  have := b2i_bound d
  have := b2i_bound l
  unfold vgen vpack
  omega
theorem vcnt_pack (g c : Int) (d l : Bool) : vcnt (vpack g c d l) = c % 274877906944 := by
  have := b2i_bound d
  have := b2i_bound l
  unfold vcnt vpack
  omega
theorem vdead_pack (g c : Int) (d l : Bool) : vdead (vpack g c d l) = d := by
  have h : vpack g c d l / 2 % 2 = b2i d := by
    have := b2i_bound d
    have := b2i_bound l
    unfold vpack
    omega
  unfold vdead
  rw [h]
  cases d <;> rfl
theorem vlocked_pack (g c : Int) (d l : Bool) : vlocked (vpack g c d l) = l := by
  have h : vpack g c d l % 2 = b2i l := by
    have := b2i_bound d
    have := b2i_bound l
    unfold vpack
    omega
  unfold vlocked
  rw [h]
  cases l <;> rfl
theorem vpack_gen (g c : Int) (d l : Bool) : vpack (g % 16777216) c d l = vpack g c d l := by unfold vpack; omega
theorem vpack_cnt (g c : Int) (d l : Bool) : vpack g (c % 274877906944) d l = vpack g c d l := by unfold vpack; omega
theorem vpack_gen1 (g c : Int) (d l : Bool) : vpack (g % 16777216 + 1) c d l = vpack (g + 1) c d l := by unfold vpack; omega
theorem vpack_cnt1 (g c : Int) (d l : Bool) : vpack g (c % 274877906944 + 1) d l = vpack g (c + 1) d l := by unfold vpack; omega
theorem b2i_dead (w : Int) : b2i (vdead w) = w / 2 % 2 := by
  unfold b2i vdead
  by_cases h : w / 2 % 2 = 1
  · simp [h]
  · simp [h]; omega
theorem b2i_locked (w : Int) : b2i (vlocked w) = w % 2 := by
  unfold b2i vlocked
  by_cases h : w % 2 = 1
  · simp [h]
  · simp [h]; omega
/-- A word is its parts. -/
theorem vpack_self {w : Int} (h : W64 w) : vpack (vgen w) (vcnt w) (vdead w) (vlocked w) = w := by
  obtain ⟨h1, h2⟩ := h
  unfold vpack
  rw [b2i_dead, b2i_locked]
  unfold vgen vcnt
  omega

def vlock (w : Int) : Int := vpack (vgen w) (vcnt w) (vdead w) true
def vundo (w : Int) : Int := vpack (vgen w) (vcnt w) (vdead w) false
def vcounted (w : Int) : Int := vpack (vgen w) (vcnt w + 1) (vdead w) (vlocked w)
def vbump (w : Int) : Int := vpack (vgen w) (vcnt w + 1) (vdead w) false
def vdie (w : Int) : Int := vpack (vgen w) (vcnt w) true (vlocked w)
def vkill (w : Int) : Int := vpack (vgen w) (vcnt w + 1) true false
def vlive (w : Int) : Int := vpack (vgen w) (vcnt w) false (vlocked w)
def vanew (w : Int) : Int := vpack (vgen w + 1) (vcnt w) false (vlocked w)
def vrenew (w : Int) : Int := vpack (vgen w + 1) (vcnt w + 1) false true

theorem vbump_eq (w : Int) : vundo (vcounted w) = vbump w := by
  unfold vundo vcounted vbump
  rw [vgen_pack, vcnt_pack, vdead_pack, vpack_gen, vpack_cnt]
theorem vkill_eq (w : Int) : vdie (vbump w) = vkill w := by
  unfold vdie vbump vkill
  rw [vgen_pack, vcnt_pack, vlocked_pack, vpack_gen, vpack_cnt]
theorem vrenew_eq (w : Int) : vanew (vlock (vcounted w)) = vrenew w := by
  unfold vanew vlock vcounted vrenew
  rw [vgen_pack, vcnt_pack, vlocked_pack, vgen_pack, vcnt_pack, vpack_cnt, vpack_cnt]
  unfold vpack
  omega

theorem put_lock {w : Int} (h : W64 w) : fput w 0 1 1 = vlock w := by
  have h1 := fput_at w 1 0 1 (by omega)
  obtain ⟨h2, h3⟩ := h
  unfold vlock vpack
  rw [b2i_dead, show b2i true = 1 from rfl]
  unfold vgen vcnt
  simp at h1
  rw [h1]
  omega
theorem put_undo {w : Int} (h : W64 w) : fput w 0 1 0 = vundo w := by
  have h1 := fput_at w 0 0 1 (by omega)
  obtain ⟨h2, h3⟩ := h
  unfold vundo vpack
  rw [b2i_dead, show b2i false = 0 from rfl]
  unfold vgen vcnt
  simp at h1
  rw [h1]
  omega
theorem get_cnt (w : Int) : fget w 2 38 = vcnt w := by
  have h1 := fget_at w 2 38 (by omega)
  unfold vcnt
  simpa using h1
theorem get_gen {w : Int} (h : W64 w) : fget w 40 24 = vgen w := by
  have h1 := fget_at w 40 24 (by omega)
  obtain ⟨h2, h3⟩ := h
  unfold vgen
  simp at h1
  rw [h1]
  omega
theorem get_dead (w : Int) : fget w 1 1 = w / 2 % 2 := by
  have h1 := fget_at w 1 1 (by omega)
  simpa using h1
theorem get_locked (w : Int) : fget w 0 1 = w % 2 := by
  have h1 := fget_at w 0 1 (by omega)
  simpa using h1
theorem put_cnt {w : Int} (h : W64 w) : fput w 2 38 (vcnt w + 1) = vcounted w := by
  have h1 := fput_at w (vcnt w + 1) 2 38 (by omega)
  obtain ⟨h2, h3⟩ := h
  unfold vcounted vpack
  rw [b2i_dead, b2i_locked]
  unfold vgen vcnt at *
  simp at h1
  rw [h1]
  omega
theorem put_dead {w : Int} (h : W64 w) : fput w 1 1 1 = vdie w := by
  have h1 := fput_at w 1 1 1 (by omega)
  obtain ⟨h2, h3⟩ := h
  unfold vdie vpack
  rw [b2i_locked, show b2i true = 1 from rfl]
  unfold vgen vcnt
  simp at h1
  rw [h1]
  omega
theorem put_live {w : Int} (h : W64 w) : fput w 1 1 0 = vlive w := by
  have h1 := fput_at w 0 1 1 (by omega)
  obtain ⟨h2, h3⟩ := h
  unfold vlive vpack
  rw [b2i_locked, show b2i false = 0 from rfl]
  unfold vgen vcnt
  simp at h1
  rw [h1]
  omega
theorem put_anew {w : Int} (h : W64 w) : fput (vlive w) 40 24 (vgen w + 1) = vanew w := by
  have h1 := fput_at (vlive w) (vgen w + 1) 40 24 (by omega)
  obtain ⟨h2, h3⟩ := h
  unfold vlive vanew vpack at *
  rw [b2i_locked, show b2i false = 0 from rfl] at *
  unfold vgen vcnt at *
  simp at h1
  simp
  omega
theorem put_mk1 (g : Int) : fput 0 40 24 g = g % 16777216 * 1099511627776 := by
  have h1 := fput_at 0 g 40 24 (by omega)
  simp at h1
  rw [h1]
theorem put_mk2 (G c : Int) (_h : 0 ≤ G ∧ G < 16777216) : fput (G * 1099511627776) 2 38 c = G * 1099511627776 + c % 274877906944 * 4 := by
  have h1 := fput_at (G * 1099511627776) c 2 38 (by omega)
  simp at h1
  rw [h1]
  omega
theorem put_mk3 (G C d : Int) (_h : 0 ≤ G ∧ G < 16777216) (_hc : 0 ≤ C ∧ C < 274877906944) (hd : 0 ≤ d ∧ d ≤ 1) : fput (G * 1099511627776 + C * 4) 1 1 d = G * 1099511627776 + C * 4 + d * 2 := by
  have h1 := fput_at (G * 1099511627776 + C * 4) d 1 1 (by omega)
  simp at h1
  rw [h1]
  omega
theorem put_mk4 (G C d l : Int) (_h : 0 ≤ G ∧ G < 16777216) (_hc : 0 ≤ C ∧ C < 274877906944) (_hd : 0 ≤ d ∧ d ≤ 1) (hl : 0 ≤ l ∧ l ≤ 1) :
    fput (G * 1099511627776 + C * 4 + d * 2) 0 1 l = G * 1099511627776 + C * 4 + d * 2 + l := by
  have h1 := fput_at (G * 1099511627776 + C * 4 + d * 2) l 0 1 (by omega)
  simp at h1
  rw [h1]
  omega
theorem put_make (g c : Int) (d l : Bool) : fput (fput (fput (fput 0 40 24 g) 2 38 c) 1 1 (b2i d)) 0 1 (b2i l) = vpack g c d l := by
  have hg : 0 ≤ g % 16777216 ∧ g % 16777216 < 16777216 := by omega
  have hc : 0 ≤ c % 274877906944 ∧ c % 274877906944 < 274877906944 := by omega
  rw [put_mk1, put_mk2 _ _ hg, put_mk3 _ _ _ hg hc (b2i_bound d), put_mk4 _ _ _ _ hg hc (b2i_bound d) (b2i_bound l)]
  rfl
end Go.Proofs.YteiidfklepjpmaaDoor

/-
  Package vword: contracts.
-/
namespace Go.Proofs.YteiidfklepjpmaaDoor
open Go.RowKit

theorem W64.small {x : Int} (h : 0 ≤ x ∧ x ≤ 1) : W64 x := ⟨h.1, by omega⟩
theorem b2i_w (b : Bool) : W64 (b2i b) := W64.small (b2i_bound b)

theorem vcnt_bound (x : Int) : 0 ≤ vcnt x ∧ vcnt x < 274877906944 := by unfold vcnt; omega
theorem vgen_bound {x : Int} (h : W64 x) : 0 ≤ vgen x ∧ vgen x < 16777216 := by obtain ⟨h1, h2⟩ := h; unfold vgen; omega

def AfterIn (vs : Nat → Int) (n : Nat) (w : World) (x i : Value) (wr : World) : Prop :=
  ∃ k : Nat, k ≤ n ∧ i = .int .i64 k ∧ x = .int .u64 (vs k) ∧ Below w.heap.size w wr

theorem same_below {r : Value} {w : World} {e : Ending} {w' : World} (h : e = .returned r ∧ w = w') : e = .returned r ∧ Below w.heap.size w w' := ⟨h.1, h.2 ▸ Below.refl _ _⟩

end Go.Proofs.YteiidfklepjpmaaDoor

/-
  Package gleaningref04: contracts.
-/
namespace Go.Proofs.YteiidfklepjpmaaDoor
open Go.RowKit

def vagg (w : Int) : Value := .agg #[.bool (vlocked w), .bool (vdead w), .int .u64 (vcnt w), .int .u64 (vgen w)]

set_option maxHeartbeats 400000 in
theorem rword_any (l d : Bool) (c g : Int) (w : World) (hc : W64 c) (hg : W64 g) :
    Calls Tryd.prog 21 #[.agg #[.bool l, .bool d, .int .u64 c, .int .u64 g]] w fun e w' => e = .returned (.int .u64 (vpack g c d l)) ∧ Below w.heap.size w w' := by
  obtain ⟨h1, h2⟩ := hc
  obtain ⟨h3, h4⟩ := hg
  have t1 : g.tmod 16777216 = g % 16777216 := Int.tmod_eq_emod_of_nonneg h3
  have t2 : c.tmod 274877906944 = c % 274877906944 := Int.tmod_eq_emod_of_nonneg h1
  have b3 : 0 ≤ c % 274877906944 ∧ c % 274877906944 < 274877906944 := by omega
  have b4 : 0 ≤ g % 16777216 ∧ g % 16777216 < 16777216 := by omega
  have E := hide (show vpack g c d l = g % 16777216 * 1099511627776 + c % 274877906944 * 4 + b2i d * 2 + b2i l from rfl)
  generalize vpack g c d l = R at *
  generalize g % 16777216 = G at *
  generalize c % 274877906944 = C at *
  cases l <;> cases d
  all_goals
    go_enter Tryd.func21, Tryd.ntmps21
    go_wp2_with fail
    go_ret
    refine ⟨?_, (Below.refl _ _).alloc (Nat.le_refl _) _⟩
    rw [E.out]
    simp [b2i]
    try omega
end Go.Proofs.YteiidfklepjpmaaDoor

/-
  gleaningref10.New: the words of a machine that begins.
-/
namespace Go.Proofs.YteiidfklepjpmaaDoor
open Go.RowKit

def RbIn (g gc N : Nat) (s t f l p : Int) (w : World) (i : Value) (wr : World) : Prop :=
  ∃ (k : Nat) (ws : List Int), i = .int .i64 k ∧ 2 ≤ k ∧ (k : Int) ≤ max 2 (s + 1) ∧ RefOk wr g ws ∧ ws.length = N ∧ BegK s t f k ws ∧ Blk wr gc 23 #[.int .i64 s, .int .i64 t, .int .i64 f, .int .i64 l, .int .i64 p] ∧ Below w.heap.size w wr
theorem set_begK {s t f k x : Int} {ws : List Int} {p : Nat} (hp : p < ws.length) (h : ∀ j : Nat, j < ws.length → (if j = p then x else ws.getD j 0) = bK s t f k j) : BegK s t f k (ws.set p x) := by
  intro j hj
  rw [List.length_set] at hj
  rw [getD_set _ _ _ _ hp]
  exact h j hj
theorem begK_zs (s t f : Int) (n : Nat) (p1 p2 p3 : Nat) (h1 : (p1 : Int) = nB t f 0 + 1) (h2 : (p2 : Int) = nB t f 0 + 3 + f) (h3 : (p3 : Int) = nB t f 1) (hf : 4 ≤ f) (hl : p1 < n ∧ p2 < n ∧ p3 < n) : BegK s t f 2 ((((zs n).set p1 3).set p2 65537).set p3 1099511627776) := by
  intro j hj
  simp only [List.length_set] at hj
  rw [getD_set _ _ _ _ (by simp only [List.length_set, zs_len]; omega), getD_set _ _ _ _ (by simp only [List.length_set, zs_len]; omega), getD_set _ _ _ _ (by rw [zs_len]; omega), getD_zs]
  have a1 := at_or (t := t) (f := f) (j := j) (k := 0) (c := 1) (by omega) (by omega)
  have a2 := at_or (t := t) (f := f) (j := j) (k := 0) (c := 3 + f) (by omega) (by omega)
  have a3 := at_or (t := t) (f := f) (j := j) (k := 1) (c := 0) (by omega) (by omega)
  have e1 : (j = p1) ↔ (j : Int) = nB t f 0 + 1 := by omega
  have e2 : (j = p2) ↔ (j : Int) = nB t f 0 + (3 + f) := by omega
  have e3 : (j = p3) ↔ (j : Int) = nB t f 1 + 0 := by omega
  unfold bK bOR
  simp only [e1, e2, e3, a1, a2, a3]
  generalize oOf t f j = o
  generalize rOf t f j = r
  repeat' split
  all_goals first | rfl | omega
set_option maxRecDepth 100000 in
set_option maxHeartbeats 4000000 in
theorem rnew10_any (s t f l p : Int) (N : Nat) (w : World) (hc : cfgOk s t f l p = true) (hN : laySize s t f = N) :
    Calls Tryd.prog 8 #[.agg #[.int .i64 s, .int .i64 t, .int .i64 f, .int .i64 l, .int .i64 p]] w fun e w' => (∃ g, e = .returned (.slice (some ⟨g, 0, none⟩) N N) ∧ RefOk w' g (begL s t f) ∧ w.heap.size ≤ g) ∧ Below w.heap.size w w' := by
  have hb := cfgOk_iff.1 hc
  have hs : 1 ≤ s ∧ s ≤ 1000 := by omega
  have ht : 1 ≤ t ∧ t ≤ 64 := by omega
  have hf : 4 ≤ f ∧ f ≤ 64 := by omega
  have hsp := size_pos hs ht hf
  have b0 := nB_bd hs ht hf (sl := 0) (by omega)
  have b1 := nB_bd hs ht hf (sl := 1) (by omega)
  obtain ⟨p1, hp1⟩ : ∃ p1 : Nat, nB t f 0 + 1 = p1 := Int.eq_ofNat_of_zero_le (by omega)
  obtain ⟨p2, hp2⟩ : ∃ p2 : Nat, nB t f 0 + 3 + f = p2 := Int.eq_ofNat_of_zero_le (by omega)
  obtain ⟨p3, hp3⟩ : ∃ p3 : Nat, nB t f 1 = p3 := Int.eq_ofNat_of_zero_le (by omega)
  have RN := hide (rnew_any s t f l p N · (by unfold rSize; rw [if_pos hc]; exact hN) (by omega))
  have C1 := hide (fun w2 => rshp_any s t f l p 0 w2 hs ht hf (by omega))
  have C2 := hide (fun w2 => rval_any s t f l p 0 0 w2 hs ht hf (by omega) (by omega))
  have C3 := hide (fun w2 => rver_any s t f l p 1 w2 hs ht hf (by omega))
  have C4 := hide (fun w2 => rword_any false false 0 1 w2 ⟨by omega, by omega⟩ ⟨by omega, by omega⟩)
  rw [show vpack 1 0 false false = 1099511627776 by rfl] at C4
  rw [hp1] at C1
  rw [show nB t f 0 + 3 + f + 0 = nB t f 0 + 3 + f by omega, hp2] at C2
  rw [hp3] at C3
  have CV := hide (fun (k : Nat) (hk : (k : Int) ≤ s) w2 => rver_any s t f l p k w2 hs ht hf (by omega))
  have CL := hide (fun (k : Nat) (hk : (k : Int) ≤ s) w2 => rlnkB_any s t f l p k w2 hs ht hf (by omega))
  have BG := hide (begK_zs s t f N p1 p2 p3 hp1.symm hp2.symm hp3.symm (by omega) (by omega))
  have q1 : (p1 : Int) < (N : Int) := by omega
  have q2 : (p2 : Int) < (N : Int) := by omega
  have q3 : (p3 : Int) < (N : Int) := by omega
  have qN : (N == 0) = false := by rw [beq_eq_false_iff_ne]; omega
  have qN2 : ((N : Int) == 0) = false := by rw [beq_eq_false_iff_ne]; omega
  have HNN := hide hN
  have HP := hide (And.intro hp1 (And.intro hp2 hp3))
  have HB := hide hb
  clear hp1 hp2 hp3 hN hb hc b0 b1 hsp
  have B0 := (Below.refl w.heap.size w).alloc (Nat.le_refl _) (.cells #[.int .i64 s, .int .i64 t, .int .i64 f, .int .i64 l, .int .i64 p] 23)
  have bc := Blk.new w 23 #[.int .i64 s, .int .i64 t, .int .i64 f, .int .i64 l, .int .i64 p]
  have mc := fun i => bc.cell i
  go_enter Tryd.func8, Tryd.ntmps8
  go_wp2_with fail
  refine (RN.out _).mono ?_
  rintro e w1 ⟨⟨g, rfl, R, hg⟩, hb1⟩
  replace bc := bc.below hb1 bc.lt
  replace B0 := B0.trans (hb1.mono B0.size)
  have HG := hide (show w.heap.size ≤ g by rw [World.size_alloc] at hg; omega)
  have HCG := hide (show w.heap.size ≠ g by rw [World.size_alloc] at hg; omega)
  have ne1 := HCG.out
  have ne2 := HCG.out.symm
  clear hb1 mc hg
  have mc := fun i => bc.cell i
  go_wp2_with fail
  refine (C1.out _).mono ?_
  rintro e w2 ⟨rfl, hb1⟩
  replace bc := bc.below hb1 bc.lt
  replace R := R.below hb1
  replace B0 := B0.trans (hb1.mono B0.size)
  clear hb1 mc
  have mc := fun i => bc.cell i
  have z1 := R.at_ (j := p1) (by rw [zs_len]; omega)
  have f1 := Blk.frozen R p1
  go_wp2_with fail
  clear z1 f1 mc
  replace R := R.set_ p1 3
  replace bc := bc.far (p := ⟨g, p1, none⟩) HCG.out (.int .u64 3)
  replace B0 := B0.setCell (p := ⟨g, p1, none⟩) HG.out (.int .u64 3)
  generalize w2.setCell ⟨g, p1, none⟩ (.int .u64 3) = w3 at *
  refine (C2.out _).mono ?_
  rintro e w4 ⟨rfl, hb1⟩
  replace bc := bc.below hb1 bc.lt
  replace R := R.below hb1
  replace B0 := B0.trans (hb1.mono B0.size)
  clear hb1
  have mc := fun i => bc.cell i
  have z1 := R.at_ (j := p2) (by rw [List.length_set, zs_len]; omega)
  have f1 := Blk.frozen R p2
  go_wp2_with fail
  clear z1 f1 mc
  replace R := R.set_ p2 65537
  replace bc := bc.far (p := ⟨g, p2, none⟩) HCG.out (.int .u64 65537)
  replace B0 := B0.setCell (p := ⟨g, p2, none⟩) HG.out (.int .u64 65537)
  generalize w4.setCell ⟨g, p2, none⟩ (.int .u64 65537) = w5 at *
  have mc := fun i => bc.cell i
  refine (C3.out _).mono ?_
  rintro e w6 ⟨rfl, hb1⟩
  replace bc := bc.below hb1 bc.lt
  replace R := R.below hb1
  replace B0 := B0.trans (hb1.mono B0.size)
  clear hb1 mc
  have mc := fun i => bc.cell i
  go_wp2_with fail
  refine (C4.out _).mono ?_
  rintro e w7 ⟨rfl, hb1⟩
  replace bc := bc.below hb1 bc.lt
  replace R := R.below hb1
  replace B0 := B0.trans (hb1.mono B0.size)
  clear hb1 mc
  have mc := fun i => bc.cell i
  have z1 := R.at_ (j := p3) (by simp only [List.length_set, zs_len]; omega)
  have f1 := Blk.frozen R p3
  go_wp2_with fail
  clear z1 f1 mc
  replace R := R.set_ p3 1099511627776
  replace bc := bc.far (p := ⟨g, p3, none⟩) HCG.out (.int .u64 1099511627776)
  replace B0 := B0.setCell (p := ⟨g, p3, none⟩) HG.out (.int .u64 1099511627776)
  generalize w7.setCell ⟨g, p3, none⟩ (.int .u64 1099511627776) = w8 at *
  have hwl : ((((zs N).set p1 3).set p2 65537).set p3 1099511627776).length = N := by simp only [List.length_set, zs_len]
  generalize (((zs N).set p1 3).set p2 65537).set p3 1099511627776 = ws0 at *
  clear q1 q2 q3 C1 C2 C3 C4 RN HP
  go_loopw [4] (RbIn g w.heap.size N s t f l p w) (fun i _ => (s + 1).toNat - (intOf i).toNat)
  case atStart => exact ⟨2, ws0, rfl, by omega, by omega, R, hwl, BG.out, bc, B0⟩
  case round =>
    clear R hwl BG bc B0
    obtain ⟨k, ws, rfl, hk2, hks, R, hwl, BG, bc, B0⟩ := hrel
    have mc := fun i => bc.cell i
    by_cases hle : (k : Int) ≤ s
    · have bk := nB_bd hs ht hf (sl := (k : Int)) (by omega)
      obtain ⟨q, hq⟩ : ∃ q : Nat, nB t f k = q := Int.eq_ofNat_of_zero_le (by omega)
      have CVk := hide (CV.out k hle)
      have CLk := hide (CL.out k hle)
      rw [hq] at CVk
      rw [show nB t f (k : Int) + 2 = ((q + 2 : Nat) : Int) by omega] at CLk
      have hqN := HNN.out
      have hq1 : (q : Int) < (N : Int) := by omega
      have hq2 : ((q + 2 : Nat) : Int) < (N : Int) := by omega
      have HQ := hide hq
      have HW1 := hide (show q < ws.length by omega)
      have HW2 := hide (show q + 2 < (ws.set q 2).length by rw [List.length_set]; omega)
      have hk64 : IntKind.u64.wrap (k : Int) = (k : Int) := IntWalk.u64_in _ (by omega)
      have hk65 : IntKind.u64.wrap ((k : Int) + 1) = (k : Int) + 1 := IntWalk.u64_in _ (by omega)
      have hmf := hide (show (s + 1).toNat - (k + 1) < (s + 1).toNat - k by omega)
      clear bk hq hqN
      generalize hq2e : q + 2 = q2 at *
      replace hq2e := hide hq2e
      by_cases hlt : (k : Int) < s
      · go_wp2_with fail
        refine (CVk.out _).mono ?_
        rintro e w9 ⟨rfl, hb1⟩
        replace bc := bc.below hb1 bc.lt
        replace R := R.below hb1
        replace B0 := B0.trans (hb1.mono B0.size)
        clear hb1 mc
        have mc := fun i => bc.cell i
        have z1 := R.at_ (j := q) HW1.out
        have f1 := Blk.frozen R q
        go_wp2_with fail
        clear z1 f1 mc
        replace R := R.set_ q 2
        replace bc := bc.far (p := ⟨g, q, none⟩) HCG.out (.int .u64 2)
        replace B0 := B0.setCell (p := ⟨g, q, none⟩) HG.out (.int .u64 2)
        generalize w9.setCell ⟨g, q, none⟩ (.int .u64 2) = wA at *
        have mc := fun i => bc.cell i
        refine (CLk.out _).mono ?_
        rintro e wB ⟨rfl, hb1⟩
        replace bc := bc.below hb1 bc.lt
        replace R := R.below hb1
        replace B0 := B0.trans (hb1.mono B0.size)
        clear hb1 mc
        have mc := fun i => bc.cell i
        have z1 := R.at_ (j := q2) HW2.out
        have f1 := Blk.frozen R q2
        go_wp2_with fail
        have R9 := R.set_ q2 ((k : Int) + 1)
        have bc9 := bc.far (p := ⟨g, q2, none⟩) HCG.out (.int .u64 ((k : Int) + 1))
        have B9 := B0.setCell (p := ⟨g, q2, none⟩) HG.out (.int .u64 ((k : Int) + 1))
        go_roundw
        case measure => simp [intOf]; omega
        case rel =>
          refine ⟨k + 1, _, by go_num, by omega, by omega, R9, by rw [List.length_set, List.length_set]; exact hwl, ?_, bc9, B9⟩
          rw [show ((k + 1 : Nat) : Int) = (k : Int) + 1 by omega]
          refine set_begK HW2.out fun j hj => ?_
          rw [List.length_set] at hj
          rw [getD_set _ _ _ _ HW1.out, bK_step (by omega) (by omega), BG j hj]
          have h1 := HQ.out
          have h2 := hq2e.out
          have e1 : (j = q) ↔ (j : Int) = nB t f k := by omega
          have e2 : (j = q2) ↔ (j : Int) = nB t f k + 2 := by omega
          simp only [e1, e2]
          by_cases c1 : (j : Int) = nB t f k
          · rw [if_neg (by omega), if_pos c1, if_pos c1]
          · rw [if_neg c1, if_neg c1]
            by_cases c2 : (j : Int) = nB t f k + 2
            · rw [if_pos c2, if_pos ⟨hlt, c2⟩]
            · rw [if_neg c2, if_neg (fun h => c2 h.2)]
      · go_wp2_with fail
        refine (CVk.out _).mono ?_
        rintro e w9 ⟨rfl, hb1⟩
        replace bc := bc.below hb1 bc.lt
        replace R := R.below hb1
        replace B0 := B0.trans (hb1.mono B0.size)
        clear hb1 mc
        have mc := fun i => bc.cell i
        have z1 := R.at_ (j := q) HW1.out
        have f1 := Blk.frozen R q
        go_wp2_with fail
        have R9 := R.set_ q 2
        have bc9 := bc.far (p := ⟨g, q, none⟩) HCG.out (.int .u64 2)
        have B9 := B0.setCell (p := ⟨g, q, none⟩) HG.out (.int .u64 2)
        go_roundw
        case measure => simp [intOf]; omega
        case rel =>
          refine ⟨k + 1, _, by go_num, by omega, by omega, R9, by rw [List.length_set]; exact hwl, ?_, bc9, B9⟩
          rw [show ((k + 1 : Nat) : Int) = (k : Int) + 1 by omega]
          refine set_begK HW1.out fun j hj => ?_
          rw [bK_step (by omega) (by omega), BG j hj]
          have h1 := HQ.out
          have e1 : (j = q) ↔ (j : Int) = nB t f k := by omega
          simp only [e1]
          by_cases c1 : (j : Int) = nB t f k
          · rw [if_pos c1, if_pos c1]
          · rw [if_neg c1, if_neg c1, if_neg (fun h => absurd h.1 (by omega))]
    · have h2N : 2 < N := by have := HNN.out; have := size_pos hs ht hf; omega
      by_cases hs2 : 2 ≤ s
      · have hks2 : (k : Int) = s + 1 := by omega
        have HKS := hide hks2
        have z1 := R.at_ (j := 2) (by omega)
        have f1 := Blk.frozen R 2
        have i2 : (2 : Int) < (N : Int) := by omega
        clear hks2
        go_wp2_with fail
        have R9 := R.set_ 2 2
        have B9 := B0.setCell (p := ⟨g, 2, none⟩) HG.out (.int .u64 2)
        go_ret
        refine ⟨⟨g, rfl, ?_, HG.out⟩, B9⟩
        have e : ws.set 2 2 = begL s t f := by
          refine begL_of (by rw [List.length_set, hwl]; have := HNN.out; omega) fun j hj => ?_
          rw [List.length_set] at hj
          rw [getD_set _ _ _ _ (by omega), BG j hj, HKS.out]
          unfold begAt
          by_cases hj2 : j = 2
          · rw [if_pos hj2, if_pos (by omega), if_pos hs2]
          · rw [if_neg hj2, if_neg (by omega)]
        rw [← e]
        exact R9
      · have hs1 : s = 1 := by omega
        have HS1 := hide hs1
        clear hs1
        go_wp2_with fail
        go_ret
        refine ⟨⟨g, rfl, ?_, HG.out⟩, B0⟩
        have e : ws = begL s t f := by
          refine begL_of (by rw [hwl]; have := HNN.out; omega) fun j hj => ?_
          rw [BG j hj]
          have hs1 := HS1.out
          have hk3 : (k : Int) = 2 := by omega
          rw [hk3]
          unfold begAt
          by_cases hj2 : (j : Int) = 2
          · rw [if_pos hj2, if_neg (by omega)]
            unfold bK bOR
            have ho : oOf t f j < 0 := by
              unfold oOf
              rw [hj2]
              exact Int.ediv_neg_of_neg_of_pos (by omega) (by omega)
            generalize oOf t f j = o at *
            rw [if_neg (by omega), if_neg (by omega), if_neg (by omega), if_neg (by omega), if_neg (by omega)]
          · rw [if_neg hj2, show s + 1 = 2 by omega]
        rw [← e]
        exact R
end Go.Proofs.YteiidfklepjpmaaDoor

/-
  Package handle and its reference: Make, Slot, Gen, Right, in part.
-/
namespace Go.Proofs.YteiidfklepjpmaaDoor
open Go.RowKit

def hmk (gen slot : Int) : Int := if slot < 1 ∨ 65535 < slot then 0 else gen % 16777216 * 65536 + slot
def hsl (h : Int) : Int := h % 65536
def hgn (h : Int) : Int := h / 65536 % 16777216
def hrt (h slots : Int) : Bool := decide (1 ≤ hsl h) && decide (hsl h ≤ slots) && decide (h < 1099511627776)
theorem hmk_bound (gen slot : Int) : W64 (hmk gen slot) := by
  unfold hmk
  split
  · exact ⟨by omega, by omega⟩
  · exact ⟨by omega, by omega⟩

/-! The reference. -/
/-! Texts. -/
end Go.Proofs.YteiidfklepjpmaaDoor

/-
  memory.All; the example of chapter 9.
-/
namespace Go.Proofs.YteiidfklepjpmaaDoor
open Go.RowKit
attribute [local go_sem] past_cell past_cell_add

/-- Accesses as cells. -/
def rec4 (l : List (Int × Int × Int × Int)) : List Value := l.flatMap fun r => [.int .i64 r.1, .int .i64 r.2.1, .int .u64 r.2.2.1, .int .u64 r.2.2.2]
theorem rec4_len (l : List (Int × Int × Int × Int)) : (rec4 l).length = l.length * 4 := by
  induction l with
  | nil => rfl
  | cons r l ih =>
    have : (rec4 (r :: l)) = .int .i64 r.1 :: .int .i64 r.2.1 :: .int .u64 r.2.2.1 :: .int .u64 r.2.2.2 :: rec4 l := rfl
    rw [this]
    simp only [List.length_cons, ih]
    omega
theorem rec4_get (l : List (Int × Int × Int × Int)) : ∀ (k : Nat) (h : k < l.length), (rec4 l)[k * 4]? = some (.int .i64 l[k].1) ∧ (rec4 l)[k * 4 + 1]? = some (.int .i64 l[k].2.1) ∧ (rec4 l)[k * 4 + 2]? = some (.int .u64 l[k].2.2.1) ∧ (rec4 l)[k * 4 + 3]? = some (.int .u64 l[k].2.2.2) := by
  induction l with
  | nil => intro k h; simp at h
  | cons r l ih =>
    intro k h
    cases k with
    | zero => simp [rec4]
    | succ k =>
      have := ih k (by simpa using h)
      have e1 : (k + 1) * 4 = k * 4 + 4 := by omega
      have e2 : (k + 1) * 4 + 1 = k * 4 + 1 + 4 := by omega
      have e3 : (k + 1) * 4 + 2 = k * 4 + 2 + 4 := by omega
      have e4 : (k + 1) * 4 + 3 = k * 4 + 3 + 4 := by omega
      simpa [rec4, e1, e2, e3, e4] using this
theorem Reads.ask {w : World} {B n k : Nat} {A : Option Addr} {l : List (Int × Int × Int × Int)} (h : Reads w B 4 A n (rec4 l)) (hk : k < n) :
    ∃ a, A = some a ∧ a.block < B ∧ ∃ hl : k < l.length, w.cell? (a.add (k * 4)) = some (.int .i64 l[k].1) ∧ w.cell? ⟨(a.add (k * 4)).block, (a.add (k * 4)).off + 1, none⟩ = some (.int .i64 l[k].2.1) ∧
      w.cell? ⟨(a.add (k * 4)).block, (a.add (k * 4)).off + 2, none⟩ = some (.int .u64 l[k].2.2.1) ∧ w.cell? ⟨(a.add (k * 4)).block, (a.add (k * 4)).off + 3, none⟩ = some (.int .u64 l[k].2.2.2) := by
  have hl : k < l.length := by
    have := h.1
    rw [rec4_len] at this
    omega
  obtain ⟨a, ha, hb, x, y⟩ := h.row hk
  obtain ⟨y0, y1, y2, y3⟩ := rec4_get l k hl
  exact ⟨a, ha, hb, hl, (x (by omega)).trans y0, (y 1 (by omega) (by omega)).trans y1, (y 2 (by omega) (by omega)).trans y2, (y 3 (by omega) (by omega)).trans y3⟩
theorem Reads.lenAsk {w : World} {B n : Nat} {A : Option Addr} {l : List (Int × Int × Int × Int)} (h : Reads w B 4 A n (rec4 l)) : l.length = n := by
  have := h.1
  rw [rec4_len] at this
  omega
theorem Reads.grownG {w w' : World} {B s n g : Nat} {A : Option Addr} {xs : List Value} (h : Reads w B s A n xs) (hg : w.grownBy w' (some g)) (hB : B ≤ w.heap.size) (hne : ∀ ad, A = some ad → ad.block ≠ g) : Reads w' B s A n xs := by
  refine ⟨h.1, fun hn => ?_⟩
  obtain ⟨ad, rfl, hb, hc⟩ := h.2 hn
  refine ⟨ad, rfl, hb, fun j u hu => ?_⟩
  rw [World.cell?_of_block (w := w) (hg.block _ (by rw [block_of_add]; omega) (by rw [block_of_add]; intro e; exact hne ad rfl (by injection e)))]
  exact hc j u hu

/-- What some accesses tell, and what they leave. -/
def mAll (ws : List Int) (l : List (Int × Int × Int × Int)) : Nat → List Int × List Int
  | 0 => ([], ws)
  | k + 1 => let s := mAll ws l k; let r := l.getD k (0, 0, 0, 0); let x := mDo s.2 r.1 r.2.1 r.2.2.1 r.2.2.2; (s.1 ++ [x.1], x.2)
theorem mAll_len (ws : List Int) (l : List (Int × Int × Int × Int)) : ∀ k, (mAll ws l k).1.length = k
  | 0 => rfl
  | k + 1 => by
    show ((mAll ws l k).1 ++ _).length = _
    rw [List.length_append, mAll_len ws l k]
    rfl
theorem own_ne_row {w : World} {base g s n : Nat} {e : TypeId} {v : Value} {xs : List Value} (h : w.ownsRow base e s v n xs) (hg : g < base) : v.ownBlock = none ∨ v.ownBlock ≠ some g := by
  cases hv : v.ownBlock with
  | none => exact .inl rfl
  | some k =>
    right
    have := (h.lt k hv).1
    intro e
    injection e with e
    omega
theorem own_ne_row' {w : World} {base g s n : Nat} {e : TypeId} {v : Value} {xs : List Value} (h : w.ownsRow base e s v n xs) (hg : g < base) : some g ≠ v.ownBlock := by
  rcases own_ne_row h hg with hv | hv
  · rw [hv]
    simp
  · exact fun e => hv e.symm
theorem grown_own {w w1 w2 : World} {base g s n : Nat} {e : TypeId} {v : Value} {xs : List Value} (h : w.grownBy w1 (some g)) (ho : w1.ownsRow base e s v n xs) (hb : w.heap.size ≤ base) (hg : w1.grownBy w2 v.ownBlock) : w.grownBy w2 (some g) :=
  ⟨hg.os.trans h.os, hg.tape.trans h.tape, hg.output.trans h.output, Nat.le_trans h.size hg.size, fun k hk hr => (hg.block k (Nat.lt_of_lt_of_le hk h.size) (own_ne_row' ho (by omega))).trans (h.block k hk hr)⟩
end Go.Proofs.YteiidfklepjpmaaDoor

/-
  memory.Words, Write, Copy; the example of chapter 9.
-/
namespace Go.Proofs.YteiidfklepjpmaaDoor
open Go.RowKit
attribute [local go_sem] past_cell past_cell_add

/-- Some words of a memory. -/
def cutW (ws : List Int) (a b : Int) : List Int := (ws.take (min b ws.length).toNat).drop (max a 0).toNat
theorem cutW_none {ws : List Int} {a b : Int} (h : min b ws.length ≤ max a 0) : cutW ws a b = [] := by
  unfold cutW
  apply List.eq_nil_of_length_eq_zero
  simp only [List.length_drop, List.length_take]
  omega
theorem reads_words {w : World} {gw : Nat} {ws : List Int} (h : Blk w gw 33 (ints .u64 ws).toArray) : Reads w w.heap.size 1 (some ⟨gw, 0, none⟩) ws.length (ints .u64 ws) := by
  have := Reads.blk h ws.length 1 (by simp [ints])
  exact this.more h.lt
theorem reads_cutw {w : World} {B N x y : Nat} {A : Option Addr} {l : List Int} (h : Reads w B 1 A N (ints .u64 l)) (hxy : x < y) (hy : y ≤ N) : Reads w B 1 (A.map (·.add x)) (y - x) (ints .u64 ((l.take y).drop x)) := by
  have hl := h.lenWord
  refine ⟨by rw [ints_len]; simp; omega, fun _ => ?_⟩
  obtain ⟨ad, rfl, hb, hc⟩ := h.2 (by omega)
  refine ⟨ad.add x, rfl, by rw [block_of_add]; exact hb, fun j u hu => ?_⟩
  rw [add_of_add]
  refine hc (x + j) u ?_
  unfold ints at *
  rw [List.map_drop, List.map_take, List.getElem?_drop, List.getElem?_take] at hu
  split at hu
  · exact hu
  · cases hu
/-- Writes as cells. -/
def recW (l : List (Int × Int)) : List Value := l.flatMap fun r => [.int .i64 r.1, .int .u64 r.2]
theorem recW_len (l : List (Int × Int)) : (recW l).length = l.length * 2 := by
  induction l with
  | nil => rfl
  | cons r l ih =>
    have : (recW (r :: l)) = .int .i64 r.1 :: .int .u64 r.2 :: recW l := rfl
    rw [this]
    simp only [List.length_cons, ih]
    omega
theorem recW_get (l : List (Int × Int)) : ∀ (k : Nat) (h : k < l.length), (recW l)[k * 2]? = some (.int .i64 l[k].1) ∧ (recW l)[k * 2 + 1]? = some (.int .u64 l[k].2) := by
  induction l with
  | nil => intro k h; simp at h
  | cons r l ih =>
    intro k h
    cases k with
    | zero => simp [recW]
    | succ k =>
      have := ih k (by simpa using h)
      have e1 : (k + 1) * 2 = k * 2 + 2 := by omega
      have e2 : (k + 1) * 2 + 1 = k * 2 + 1 + 2 := by omega
      simpa [recW, e1, e2] using this
theorem Reads.wri {w : World} {B n k : Nat} {A : Option Addr} {l : List (Int × Int)} (h : Reads w B 2 A n (recW l)) (hk : k < n) :
    ∃ a, A = some a ∧ a.block < B ∧ ∃ hl : k < l.length, w.cell? (a.add (k * 2)) = some (.int .i64 l[k].1) ∧ w.cell? ⟨(a.add (k * 2)).block, (a.add (k * 2)).off + 1, none⟩ = some (.int .u64 l[k].2) := by
  have hl : k < l.length := by
    have := h.1
    rw [recW_len] at this
    omega
  obtain ⟨a, ha, hb, x, y⟩ := h.row hk
  obtain ⟨y1, y2⟩ := recW_get l k hl
  exact ⟨a, ha, hb, hl, (x (by omega)).trans y1, (y 1 (by omega) (by omega)).trans y2⟩
theorem Reads.lenWri {w : World} {B n : Nat} {A : Option Addr} {l : List (Int × Int)} (h : Reads w B 2 A n (recW l)) : l.length = n := by
  have := h.1
  rw [recW_len] at this
  omega
def WrNo (w : World) (n : Nat) (i : Value) (wr : World) : Prop := ∃ k : Nat, i = .int .i64 k ∧ k ≤ n ∧ Below w.heap.size w wr
end Go.Proofs.YteiidfklepjpmaaDoor

/-
  memory.put, Word, Write of a memory that stands.
-/
namespace Go.Proofs.YteiidfklepjpmaaDoor
open Go.RowKit
attribute [local go_sem] past_cell past_cell_add

theorem keepG {w w' : World} {g : Nat} (hg : w.grownBy w' (some g)) {p : Addr} {v : Value} (h : w.cell? p = some v) (hne : p.block ≠ g) : w'.cell? p = some v :=
  (World.cell?_of_block (hg.block _ (World.block_lt_of_cell? w p h) (fun e => hne (by injection e)))).trans h
/-- What some writes leave. -/
def mWri (ws : List Int) (l : List (Int × Int)) : Nat → List Int
  | 0 => ws
  | k + 1 => wPut (mWri ws l k) (l.getD k (0, 0)).1 (l.getD k (0, 0)).2
theorem mWri_len (ws : List Int) (l : List (Int × Int)) : ∀ k, (mWri ws l k).length = ws.length
  | 0 => rfl
  | k + 1 => by
    show (wPut _ _ _).length = _
    rw [wPut_len, mWri_len ws l k]
theorem Reads.grownH {w w' : World} {B s n g : Nat} {A : Option Addr} {xs : List Value} (h : Reads w B s A n xs) (hg : w.grownBy w' (some g)) (hB : B ≤ w.heap.size) (hne : 0 < n → ∀ ad, A = some ad → ad.block ≠ g) : Reads w' B s A n xs := by
  refine ⟨h.1, fun hn => ?_⟩
  obtain ⟨ad, rfl, hb, hc⟩ := h.2 hn
  refine ⟨ad, rfl, hb, fun j u hu => ?_⟩
  rw [World.cell?_of_block (w := w) (hg.block _ (by rw [block_of_add]; omega) (by rw [block_of_add]; intro e; exact hne hn ad rfl (by injection e)))]
  exact hc j u hu
/-- One word turned to what the other memory shows there: an access tells the same. -/
theorem one_law (ws zs : List Int) (hl : ws.length = zs.length) (k a o n : Int) :
    (mDo (wPut zs a (wGet ws a)) k a o n).1 = (mDo ws k a o n).1 ∧ wGet (mDo (wPut zs a (wGet ws a)) k a o n).2 a = wGet (mDo ws k a o n).2 a ∧ ∀ j : Nat, (j : Int) ≠ a → (mDo ws k a o n).2.getD j 0 = ws.getD j 0 := by
  by_cases hin : 0 ≤ a ∧ a < ws.length
  · obtain ⟨j, rfl⟩ := Int.eq_ofNat_of_zero_le hin.1
    have hj : j < ws.length := by omega
    have hz : j < zs.length := by omega
    have g1 : wGet (wPut zs j (wGet ws j)) j = wGet ws j := by
      rw [wPut_at hz, wGet_at (by simpa using hz)]
      simp [List.getD, hz]
    have pu : ∀ (ys : List Int) (x : Int), j < ys.length → wGet (wPut ys j x) j = x := fun ys x h => by
      rw [wPut_at h, wGet_at (by simpa using h)]
      simp [List.getD, h]
    have ot : ∀ i : Nat, (i : Int) ≠ (j : Int) → ∀ x, (wPut ws j x).getD i 0 = ws.getD i 0 := fun i hi x => by
      rw [wPut_at hj]
      simp only [List.getD, List.getElem?_set]
      rw [if_neg (by omega)]
    unfold mDo
    rw [g1, wPut_len, ← hl]
    split
    · exact ⟨rfl, g1, fun i _ => rfl⟩
    · split
      · exact ⟨rfl, by rw [pu _ _ (by rw [wPut_len]; exact hz), pu _ _ hj], fun i hi => ot i hi _⟩
      · split
        · exact ⟨rfl, by rw [pu _ _ (by rw [wPut_len]; exact hz), pu _ _ hj], fun i hi => ot i hi _⟩
        · exact ⟨rfl, g1, fun i _ => rfl⟩
  · have out : ∀ ys : List Int, ys.length = ws.length → mDo ys k a o n = (0, ys) := fun ys hy => by
      unfold mDo wGet wPut
      rw [hy, if_neg hin, if_neg hin]
      split
      · rfl
      · split
        · rfl
        · rw [if_neg (fun h => hin ⟨h.2.1, h.2.2.1⟩)]
    rw [out _ (by rw [wPut_len, hl]), out ws rfl]
    refine ⟨rfl, ?_, fun _ _ => rfl⟩
    unfold wGet
    rw [if_neg (by rw [wPut_len, ← hl]; exact hin), if_neg hin]
end Go.Proofs.YteiidfklepjpmaaDoor

/-
  Shapes: Pack, Inner, Entries; the Go function LayoutShapes.
-/
namespace Go.Proofs.YteiidfklepjpmaaDoor
open Go.RowKit

def pkN (n : Int) : Int := if n < 0 ∨ 255 < n then 0 else n
def pk (inner : Bool) (n : Int) : Int := if inner = true then pkN n * 2 + 1 else pkN n * 2
theorem pkN_bd (n : Int) : 0 ≤ pkN n ∧ pkN n ≤ 255 := by unfold pkN; split <;> omega
def innB (x : Int) : Bool := x % 2 == 1
def ents (x fan : Int) : Int := if fan < 0 then 0 else if fan < x / 2 % 256 then fan else x / 2 % 256

theorem or_one (m : Int) (h : 0 ≤ m) (h2 : m ≤ 255) : bits .or .u64 (m * 2) 1 = m * 2 + 1 := by
  obtain ⟨k, rfl⟩ := Int.eq_ofNat_of_zero_le h
  have h4 := Nat.two_pow_add_eq_or_of_lt (i := 1) (b := 1) (by decide) k
  have e : ((k : Int) * 2) = ((k * 2 : Nat) : Int) := by omega
  rw [e, show (1 : Int) = ((1 : Nat) : Int) from rfl, u64_or_nat _ _ (by omega) (by omega)]
  rw [show k * 2 = 2 ^ 1 * k by omega, ← h4]
  omega

end Go.Proofs.YteiidfklepjpmaaDoor

/-
  Package hword and its reference.
-/
namespace Go.Proofs.YteiidfklepjpmaaDoor
open Go.RowKit

def hslot (slot : Int) : Int := if slot < 0 ∨ 65535 < slot then 0 else slot
def hmake (tag slot : Int) : Int := tag % 281474976710656 * 65536 + hslot slot
theorem hslot_bound (slot : Int) : 0 ≤ hslot slot ∧ hslot slot ≤ 65535 := by unfold hslot; split <;> omega
theorem hmake_bound (tag slot : Int) : W64 (hmake tag slot) := by
  have := hslot_bound slot
  unfold hmake
  exact ⟨by omega, by omega⟩
theorem hmake_put (tag slot : Int) : fput (hslot slot) 16 48 tag = hmake tag slot := by
  have h := fput_at (hslot slot) tag 16 48 (by omega)
  have b := hslot_bound slot
  unfold hmake
  generalize hslot slot = s at *
  simp at h
  rw [h]
  omega
theorem hget_tag {w : Int} (h : W64 w) : fget w 16 48 = w / 65536 := by
  have h1 := fget_at w 16 48 (by omega)
  obtain ⟨h2, h3⟩ := h
  simp at h1
  rw [h1]
  omega
theorem hget_slot (w : Int) : fget w 0 16 = w % 65536 := by
  have h1 := fget_at w 0 16 (by omega)
  simpa using h1

set_option maxHeartbeats 400000 in
theorem hmake_any (tag slot : Int) (w : World) (ht : W64 tag) (hs : I64 slot) :
    Calls Tryd.prog 55 #[.int .u64 tag, .int .i64 slot] w fun r w' => r = .returned (.int .u64 (hmake tag slot)) ∧ w = w' := by
  have b := hslot_bound slot
  have P := hide (put_any (hslot slot) 16 48 tag w ⟨b.1, by omega⟩ ⟨by omega, by omega⟩ ⟨by omega, by omega⟩ ht)
  rw [hmake_put] at P
  obtain ⟨h0, h1⟩ := hs
  by_cases c0 : slot < 0
  · rw [show hslot slot = 0 from if_pos (.inl c0)] at P
    go_enter Tryd.func55, Tryd.ntmps55
    go_wp2_with fail
    refine P.out.mono ?_
    rintro e w' ⟨rfl, rfl⟩
    go_wp2_with fail
    go_ret
    exact ⟨rfl, rfl⟩
  by_cases c1 : 65535 < slot
  · rw [show hslot slot = 0 from if_pos (.inr c1)] at P
    go_enter Tryd.func55, Tryd.ntmps55
    go_wp2_with fail
    refine P.out.mono ?_
    rintro e w' ⟨rfl, rfl⟩
    go_wp2_with fail
    go_ret
    exact ⟨rfl, rfl⟩
  rw [show hslot slot = slot from if_neg (by omega)] at P
  have c2 : 0 ≤ slot := by omega
  have c3 : slot ≤ 65535 := by omega
  clear c0 c1 b
  go_enter Tryd.func55, Tryd.ntmps55
  go_wp2_with fail
  refine P.out.mono ?_
  rintro e w' ⟨rfl, rfl⟩
  go_wp2_with fail
  go_ret
  exact ⟨rfl, rfl⟩

set_option maxHeartbeats 400000 in
theorem hof_any (x : Int) (w : World) (hx : W64 x) :
    Calls Tryd.prog 45 #[.int .u64 x] w fun r w' => r = .returned (.agg #[.int .u64 (x / 65536), .int .i64 (x % 65536)]) ∧ Below w.heap.size w w' := by
  have T := hide (fun w => get_any x 16 48 w hx ⟨by omega, by omega⟩ ⟨by omega, by omega⟩)
  have Sl := hide (fun w => get_any x 0 16 w hx ⟨by omega, by omega⟩ ⟨by omega, by omega⟩)
  rw [hget_tag hx] at T
  rw [hget_slot] at Sl
  have b1 : 0 ≤ x % 65536 := by omega
  have b2 : x % 65536 < 65536 := by omega
  generalize x % 65536 = s at *
  generalize x / 65536 = t at *
  go_enter Tryd.func45, Tryd.ntmps45
  go_wp2_with fail
  refine (T.out _).mono ?_
  rintro e w' ⟨rfl, rfl⟩
  go_wp2_with fail
  refine (Sl.out _).mono ?_
  rintro e w' ⟨rfl, rfl⟩
  go_wp2_with fail
  refine bodyPost_ret (v := .agg #[.int .u64 t, .int .i64 s]) (by simp [results, Tryd.results45, go_sem]) rfl ⟨rfl, ?_⟩
  exact (Below.refl _ _).alloc (Nat.le_refl _) _

set_option maxHeartbeats 400000 in
theorem htell_slot (x : Int) (w : World) (hx : W64 x) :
    Calls Tryd.prog 32 #[.int .u64 x] w fun r w' => r = .returned (.int .i64 (x % 65536)) ∧ Below w.heap.size w w' := by
  have O := hide (hof_any x w hx)
  generalize x % 65536 = s at *
  generalize x / 65536 = t at *
  have hf : ∀ w : World, (Instr.field 78 (.agg #[.int .u64 t, .int .i64 s]) 1).run Tryd.prog w = .ok (.int .i64 s) w := fun _ => by kernel_rfl
  go_enter Tryd.func32, Tryd.ntmps32
  go_wp2_with fail
  refine O.out.mono ?_
  rintro e w' ⟨rfl, hb⟩
  go_wp2_with fail
  go_ret
  exact ⟨rfl, hb⟩
set_option maxHeartbeats 400000 in
theorem htell_tag (x : Int) (w : World) (hx : W64 x) :
    Calls Tryd.prog 56 #[.int .u64 x] w fun r w' => r = .returned (.int .u64 (x / 65536)) ∧ Below w.heap.size w w' := by
  have O := hide (hof_any x w hx)
  generalize x % 65536 = s at *
  generalize x / 65536 = t at *
  have hf : ∀ w : World, (Instr.field 78 (.agg #[.int .u64 t, .int .i64 s]) 0).run Tryd.prog w = .ok (.int .u64 t) w := fun _ => by kernel_rfl
  go_enter Tryd.func56, Tryd.ntmps56
  go_wp2_with fail
  refine O.out.mono ?_
  rintro e w' ⟨rfl, hb⟩
  go_wp2_with fail
  go_ret
  exact ⟨rfl, hb⟩

def hturn (x slot : Int) : Int := hmake (x / 65536 + 1) slot
theorem hturn_bound (x slot : Int) : W64 (hturn x slot) := hmake_bound _ _
set_option maxHeartbeats 400000 in
theorem hturn_any (x slot : Int) (w : World) (hx : W64 x) (hs : I64 slot) :
    Calls Tryd.prog 47 #[.int .u64 x, .int .i64 slot] w fun r w' => r = .returned (.int .u64 (hturn x slot)) ∧ Below w.heap.size w w' := by
  have O := hide (htell_tag x w hx)
  obtain ⟨h0, h1⟩ := hx
  have M := fun w => hide (hmake_any (x / 65536 + 1) slot w ⟨by omega, by omega⟩ hs)
  have E : Hid (hmake (x / 65536 + 1) slot = hturn x slot) := hide rfl
  have b1 : 0 ≤ x / 65536 := by omega
  have b2 : x / 65536 ≤ 281474976710656 := by omega
  generalize x / 65536 = t at *
  generalize hmake (t + 1) slot = r at *
  go_enter Tryd.func47, Tryd.ntmps47
  go_wp2_with fail
  refine O.out.mono ?_
  rintro e w' ⟨rfl, hb⟩
  go_wp2_with fail
  refine (M _).out.mono ?_
  rintro e w' ⟨rfl, rfl⟩
  go_wp2_with fail
  go_ret
  exact ⟨by rw [← E.out]; rfl, hb⟩

/-! The reference. -/
end Go.Proofs.YteiidfklepjpmaaDoor

/-
  arena.New: the memory of a machine that begins holds the document's words.
-/
namespace Go.Proofs.YteiidfklepjpmaaDoor
open Go.RowKit

/-- The slots above k are laid. -/
def dOR (s f k o r : Int) : Int :=
  if o = 0 ∧ r = 1 then 3 else if o = 0 ∧ r = 3 + f then 65537 else if o = 1 ∧ r = 0 then 1099511627776
  else if 2 ≤ o ∧ k < o ∧ o ≤ s ∧ r = 0 then 2 else if 2 ≤ o ∧ k < o ∧ o < s ∧ r = 2 then o + 1 else 0
def dK (s t f k j : Int) : Int := dOR s f k (oOf t f j) (rOf t f j)
def BegD (s t f k : Int) (ws : List Int) : Prop := ∀ j : Nat, j < ws.length → ws.getD j 0 = dK s t f k j
theorem dK_top (s t f j : Int) : dK s t f s j = bK s t f 2 j := by
  unfold dK bK dOR bOR
  generalize oOf t f j = o
  generalize rOf t f j = r
  repeat' split
  all_goals first | rfl | omega
theorem dK_low (s t f j : Int) : dK s t f 1 j = bK s t f (s + 1) j := by
  unfold dK bK dOR bOR
  generalize oOf t f j = o
  generalize rOf t f j = r
  repeat' split
  all_goals first | rfl | omega
theorem dK_step {s t f k j : Int} (hf : 4 ≤ f) (hk : 2 ≤ k) (hks : k ≤ s) : dK s t f (k - 1) j = if j = nB t f k + 2 then (if k < s then k + 1 else 0) else if j = nB t f k then 2 else dK s t f k j := by
  have h1 := at_or (t := t) (f := f) (j := j) (k := k) (c := 0) (by omega) (by omega)
  have h2 := at_or (t := t) (f := f) (j := j) (k := k) (c := 2) (by omega) (by omega)
  rw [Int.add_zero] at h1
  unfold dK dOR
  simp only [h1, h2]
  generalize oOf t f j = o
  generalize rOf t f j = r
  repeat' split
  all_goals first | rfl | omega
theorem wPut_set {ws : List Int} {p : Nat} (h : p < ws.length) (x : Int) : wPut ws p x = ws.set p x := by
  unfold wPut
  rw [if_pos (by omega)]
  rfl
theorem begD_step {s t f k : Int} {ws : List Int} {q : Nat} (hf : 4 ≤ f) (hk : 2 ≤ k) (hks : k ≤ s) (hq : nB t f k = q) (hl : q + 2 < ws.length) (h : BegD s t f k ws) : BegD s t f (k - 1) (wPut (wPut ws q 2) ((q + 2 : Nat) : Int) (if k < s then k + 1 else 0)) := by
  rw [wPut_set (ws := ws) (p := q) (by omega), wPut_set (ws := ws.set q 2) (p := q + 2) (by rw [List.length_set]; exact hl)]
  intro j hj
  rw [List.length_set, List.length_set] at hj
  rw [getD_set _ _ _ _ (by rw [List.length_set]; exact hl), getD_set _ _ _ _ (by omega), dK_step hf hk hks, h j hj, hq]
  have e1 : (j = q + 2) ↔ (j : Int) = (q : Int) + 2 := by omega
  have e2 : (j = q) ↔ (j : Int) = (q : Int) := by omega
  simp only [e1, e2]
theorem begD_end {s t f : Int} {ws : List Int} (hN : ws.length = (laySize s t f).toNat) (h2 : 2 < ws.length) (h : BegD s t f 1 ws) : wPut ws 2 (if 2 ≤ s then 2 else 0) = begL s t f := by
  rw [show (2 : Int) = ((2 : Nat) : Int) from rfl, wPut_set h2]
  refine begL_of (by rw [List.length_set]; exact hN) fun j hj => ?_
  rw [List.length_set] at hj
  rw [getD_set _ _ _ _ h2, h j hj, dK_low]
  unfold begAt
  by_cases hj2 : j = 2
  · rw [if_pos hj2, if_pos (show (j : Int) = 2 by omega)]
    rfl
  · rw [if_neg hj2, if_neg (by omega)]
end Go.Proofs.YteiidfklepjpmaaDoor

/-
  A map from ints to bools that the call itself makes: what stands at a key, behind a store.
-/
namespace Go.Proofs.YteiidfklepjpmaaDoor
open Go.RowKit Go.Maps

theorem lawI64 : Keyed Tryd.prog 3 := int_keyed Tryd.underlying3
theorem zeroBoolI (w : World) : (zeroValue 4).run Tryd.prog w = .ok (.bool false) w := by kernel_rfl

theorem plainElem_bool_invI {H : Type} {P : Program} {e : TypeId} (he : P.underlying e = some .bool) {v : Value} {z : DataW H × List MemPlace} (h : plainElem P e v = some z) : ∃ a, v = .bool a ∧ z = (.lit (.bool a), []) := by
  unfold plainElem at h
  rw [he] at h
  cases v <;> simp at h
  exact ⟨_, rfl, h.symm⟩

/-- Block b is a map of at most n entries that answers f. -/
def MapInt (w : World) (b n : Nat) (f : Int → Bool) : Prop :=
  ∃ D : DataW Unit, IsMap D ∧ w.ownsMap Tryd.prog 3 (plainElem Tryd.prog 4) b n D ∧ ∀ k : Int, (Lit.int .i64 k).wf = true → D.atKey (.int .i64 k) (.lit (.bool false)) = .lit (.bool (f k))

theorem MapInt.made (w : World) : MapInt (w.alloc (.map #[] 0)) w.heap.size 0 (fun _ => false) :=
  ⟨.map [], ⟨[], rfl⟩, World.ownsMap_made _ _ _ _, fun _ _ => rfl⟩
theorem MapInt.below {w w' : World} {b n : Nat} {f : Int → Bool} (h : MapInt w b n f) (hb : Below w.heap.size w w') : MapInt w' b n f := by
  obtain ⟨D, hi, ho, ha⟩ := h
  exact ⟨D, hi, ho.kept (row := none) ⟨hb.os, hb.tape, hb.output, hb.size, fun k hk _ => hb.block k hk⟩ (by simp), ha⟩
theorem MapInt.below' {w w' : World} {b n B : Nat} {f : Int → Bool} (h : MapInt w b n f) (hB : b < B) (hb : Below B w w') : MapInt w' b n f := by
  obtain ⟨D, hi, ⟨es, cl, hh, r⟩, ha⟩ := h
  exact ⟨D, hi, ⟨es, cl, (hb.block b hB).trans hh, r⟩, ha⟩
theorem MapInt.alloc {w : World} {b n : Nat} {f : Int → Bool} (h : MapInt w b n f) (o : Obj) : MapInt (w.alloc o) b n f := by
  obtain ⟨D, hi, ho, ha⟩ := h
  exact ⟨D, hi, ho.alloc o, ha⟩
theorem MapInt.lt {w : World} {b n : Nat} {f : Int → Bool} (h : MapInt w b n f) : b < w.heap.size := by
  obtain ⟨D, hi, ho, ha⟩ := h
  exact ho.lt

theorem atKey_putI {D : DataW Unit} (hi : IsMap D) (x k : Int) (y : Bool) (z : DataW Unit) : (D.put (.int .i64 x) (.lit (.bool y))).atKey (.int .i64 k) z = if k = x then .lit (.bool y) else D.atKey (.int .i64 k) z := by
  by_cases h : k = x
  · subst h
    rw [if_pos rfl]
    exact atKey_put_same hi (by simp [WideAt.IsKeyLit]) _ _
  · rw [if_neg h]
    exact atKey_put_other (fun e => h (by injection e)) _ _

end Go.Proofs.YteiidfklepjpmaaDoor

/-
  The list of free slots: arena.Free.
-/
namespace Go.Proofs.YteiidfklepjpmaaDoor
open Go.RowKit Go.Maps

def frN (nx : Int → Int) (s : Int) : Nat → Int → List Int → List Int × Bool
  | 0, _, l => (l, false)
  | n + 1, x, l => if x = 0 then (l, true) else if s < x ∨ x ∈ l then (l, false) else frN nx s n (nx x) (l ++ [x])
def Nice (s : Int) (l : List Int) : Prop := l.Nodup ∧ ∀ x ∈ l, 1 ≤ x ∧ x ≤ s
theorem nice_nil (s : Int) : Nice s [] := ⟨List.nodup_nil, fun x hx => by simp at hx⟩
theorem nice_len : ∀ (n : Nat) (l : List Int), Nice (n : Int) l → l.length ≤ n
  | 0, l, h => by
    cases l with
    | nil => simp
    | cons x l => have := h.2 x (by simp); omega
  | n + 1, l, h => by
    have h1 : Nice (n : Int) (l.erase ((n : Int) + 1)) := by
      refine ⟨h.1.erase _, fun x hx => ?_⟩
      have hm := (h.1.mem_erase_iff).1 hx
      have := h.2 x hm.2
      have := hm.1
      omega
    have h2 := nice_len n _ h1
    have h3 := List.length_erase (a := (n : Int) + 1) (l := l)
    split at h3 <;> omega
theorem nice_snoc {s x : Int} {l : List Int} (h : Nice s l) (h1 : 1 ≤ x ∧ x ≤ s) (hn : x ∉ l) : Nice s (l ++ [x]) := by
  refine ⟨?_, fun y hy => ?_⟩
  · rw [List.nodup_append]
    refine ⟨h.1, by simp, fun a ha b hb => ?_⟩
    simp at hb
    subst hb
    exact fun e => hn (e ▸ ha)
  · rcases List.mem_append.1 hy with hy | hy
    · exact h.2 y hy
    · simp at hy
      omega
def nxt (ws : List Int) (t f k : Int) : Int := wGet ws (nB t f k + 2)
theorem wGet_w64 {ws : List Int} (h : AllW64 ws) (a : Int) : W64 (wGet ws a) := by
  unfold wGet
  split
  next c =>
    rw [List.getD_eq_getElem?_getD, List.getElem?_eq_getElem (by omega)]
    exact h _ (List.getElem_mem _)
  · exact ⟨by omega, by omega⟩
theorem MapInt.grown {w w' : World} {b n : Nat} {f : Int → Bool} {row : Option Nat} (h : MapInt w b n f) (hg : w.grownBy w' row) (hne : some b ≠ row) : MapInt w' b n f := by
  obtain ⟨D, hi, ho, ha⟩ := h
  exact ⟨D, hi, ho.kept hg hne, ha⟩
theorem infoI10 : (Tryd.prog.info? 3).map (fun i => (i.zero, i.size, i.bytes)) = some (some (.int .i64 0), 1, 8) := by kernel_rfl
def frR (ws : List Int) (s t f : Int) : List Int × Bool := frN (nxt ws t f) s (s.toNat + 1) (wGet ws 2 % 65536) []
def lenV : Value → Nat
  | .slice _ n _ => n
  | _ => 0
def FrIn (s : Int) (nx : Int → Int) (R : List Int × Bool) (w : World) (o i : Value) (wr : World) : Prop :=
  ∃ (x : Int) (l : List Int) (A : Option Addr) (c : Nat), o = .slice A l.length c ∧ i = .int .u64 x ∧ W64 x ∧ Nice s l ∧ frN nx s (s.toNat + 1 - l.length) x l = R ∧
    wr.ownsRow (w.heap.size + 1) 3 1 (.slice A l.length c) l.length (ints .i64 l) ∧ MapInt wr w.heap.size l.length (fun k => decide (k ∈ l)) ∧ w.heap.size + 1 ≤ wr.heap.size ∧ Below w.heap.size w wr
end Go.Proofs.YteiidfklepjpmaaDoor

/-
  The list of free slots of a machine that begins: from 2 on.
-/
namespace Go.Proofs.YteiidfklepjpmaaDoor
open Go.RowKit

/-- So many slots, from 2 on. -/
def rg2 (n : Nat) : List Int := (List.range n).map fun (i : Nat) => (i : Int) + 2
theorem rg2_len (n : Nat) : (rg2 n).length = n := by simp [rg2]
theorem rg2_succ (n : Nat) : rg2 (n + 1) = rg2 n ++ [(n : Int) + 2] := by simp [rg2, List.range_succ]
theorem rg2_mem (n : Nat) (x : Int) : x ∈ rg2 n ↔ 2 ≤ x ∧ x < (n : Int) + 2 := by
  simp only [rg2, List.mem_map, List.mem_range]
  constructor
  · rintro ⟨i, hi, rfl⟩
    omega
  · intro h
    exact ⟨(x - 2).toNat, by omega, by omega⟩
theorem beg_get {s t f a : Int} (h : 0 ≤ a ∧ a < laySize s t f) : wGet (begL s t f) a = begAt s t f a := by
  unfold wGet
  have hl := begL_len s t f
  rw [if_pos (by omega), begL_at (by omega)]
  rw [show ((a.toNat : Nat) : Int) = a by omega]
theorem beg_nxt {s t f k : Int} (hs : 1 ≤ s ∧ s ≤ 1000) (ht : 1 ≤ t ∧ t ≤ 64) (hf : 4 ≤ f ∧ f ≤ 64) (hk : 2 ≤ k ∧ k ≤ s) : nxt (begL s t f) t f k = if k < s then k + 1 else 0 := by
  unfold nxt
  have b := nB_bd hs ht hf (sl := k) (by omega)
  rw [beg_get (by omega)]
  have h2 := (at_or (t := t) (f := f) (j := nB t f k + 2) (k := k) (c := 2) (by omega) (by omega)).1 rfl
  have hp : nB t f k + 2 ≠ 2 := by
    have : 0 ≤ k * (3 + 2 * f) := Int.mul_nonneg (by omega) (by omega)
    unfold nB
    omega
  unfold begAt
  rw [if_neg hp]
  unfold bK bOR
  rw [h2.1, h2.2]
  repeat' split
  all_goals omega
theorem frN_beg {s t f : Int} (hs : 1 ≤ s ∧ s ≤ 1000) (ht : 1 ≤ t ∧ t ≤ 64) (hf : 4 ≤ f ∧ f ≤ 64) : ∀ (d m n : Nat), (m : Int) + 2 + d = s → d + 2 ≤ n → frN (nxt (begL s t f) t f) s n ((m : Int) + 2) (rg2 m) = (rg2 (m + d + 1), true)
  | 0, m, n, hm, hn => by
    obtain ⟨n, rfl⟩ : ∃ n', n = n' + 2 := ⟨n - 2, by omega⟩
    unfold frN
    rw [if_neg (by omega), if_neg (by rw [rg2_mem]; omega), beg_nxt hs ht hf (by omega), if_neg (by omega), ← rg2_succ]
    unfold frN
    rw [if_pos rfl]
  | d + 1, m, n, hm, hn => by
    obtain ⟨n, rfl⟩ : ∃ n', n = n' + 1 := ⟨n - 1, by omega⟩
    unfold frN
    rw [if_neg (by omega), if_neg (by rw [rg2_mem]; omega), beg_nxt hs ht hf (by omega), if_pos (by omega), ← rg2_succ]
    have h := frN_beg hs ht hf d (m + 1) n (by omega) (by omega)
    rw [show (m : Int) + 2 + 1 = ((m + 1 : Nat) : Int) + 2 by omega, h, show m + 1 + d + 1 = m + (d + 1) + 1 by omega]
theorem frR_beg {s t f : Int} (hs : 1 ≤ s ∧ s ≤ 1000) (ht : 1 ≤ t ∧ t ≤ 64) (hf : 4 ≤ f ∧ f ≤ 64) : frR (begL s t f) s t f = (rg2 (s - 1).toNat, true) := by
  unfold frR
  have hsp := size_pos hs ht hf
  rw [beg_get (by omega)]
  unfold begAt
  rw [if_pos rfl]
  by_cases h : 2 ≤ s
  · rw [if_pos h, show (2 : Int) % 65536 = ((0 : Nat) : Int) + 2 by rfl]
    have h := frN_beg hs ht hf (s - 2).toNat 0 (s.toNat + 1) (by omega) (by omega)
    rw [show 0 + (s - 2).toNat + 1 = (s - 1).toNat by omega, show rg2 0 = [] from rfl] at h
    exact h
  · rw [if_neg h, show (s - 1).toNat = 0 by omega]
    unfold frN
    rw [if_pos (by rfl)]
    rfl
end Go.Proofs.YteiidfklepjpmaaDoor

/-
  A Pop: what it becomes of what it is told, in plain Lean.
-/
namespace Go.Proofs.YteiidfklepjpmaaDoor
open Go.RowKit

/-- The step, the slot, the head, the tries, the link. -/
def PpOk (s : Int) (x : Int × Int × Int × Int × Int) : Prop := (x.1 = 0 ∨ x.1 = 1 ∨ x.1 = 2 ∨ x.1 = 3) ∧ W64 x.2.2.1 ∧ (0 ≤ x.2.2.2.2 ∧ x.2.2.2.2 ≤ 1000) ∧ ((x.1 = 2 ∨ x.1 = 3) → 1 ≤ x.2.1 ∧ x.2.1 ≤ s)
def pTook (s : Int) (x : Int × Int × Int × Int × Int) (g : Int) : Int × Int × Int × Int × Int :=
  if x.1 = 0 then x
  else if x.1 = 1 then (if 1 ≤ g % 65536 ∧ g % 65536 ≤ s then (2, g % 65536, g, x.2.2.2.1, x.2.2.2.2) else (0, 0, g, x.2.2.2.1, x.2.2.2.2))
  else if x.1 = 2 then (3, x.2.1, x.2.2.1, x.2.2.2.1, if g ≤ s then g else 0)
  else if g = 1 then (0, x.2.1, x.2.2.1, x.2.2.2.1, x.2.2.2.2)
  else (1, x.2.1, x.2.2.1, wrap64 (x.2.2.2.1 + 1), x.2.2.2.2)
theorem pTook_ok {s g : Int} {x : Int × Int × Int × Int × Int} (h : PpOk s x) (hg : W64 g) (hs : x.1 = 0 ∨ s ≤ 1000) : PpOk s (pTook s x g) := by
  obtain ⟨h1, h2, h3, h4⟩ := h
  unfold pTook
  split
  · exact ⟨h1, h2, h3, h4⟩
  · next h0 =>
    have hs := hs.resolve_left h0
    split
    · split
      · next h => exact ⟨by simp, hg, h3, fun _ => h⟩
      · exact ⟨by simp, hg, h3, by simp⟩
    · split
      · next h => exact ⟨by simp, h2, by dsimp only; split; exact ⟨hg.1, by omega⟩; omega, fun _ => h4 (.inl h)⟩
      · next h1' h2' =>
        split
        · exact ⟨by simp, h2, h3, by simp⟩
        · exact ⟨by simp, h2, h3, by simp⟩
def pAsk (t f : Int) (x : Int × Int × Int × Int × Int) : Int × Int × Int × Int :=
  if x.1 = 1 then (1, 2, 0, 0)
  else if x.1 = 2 then (1, 3 + 3 * t + x.2.1 * (3 + 2 * f) + 2, 0, 0)
  else if x.1 = 3 then (3, 2, x.2.2.1, hturn x.2.2.1 x.2.2.2.2)
  else (0, 0, 0, 0)
end Go.Proofs.YteiidfklepjpmaaDoor

/-
  A block all of whose cells are stored, one behind the other.
-/
namespace Go.Proofs.YteiidfklepjpmaaDoor
open Go.RowKit

theorem Blk.put4 {w : World} {g : Nat} {T : TypeId} {c0 c1 c2 c3 : Value} (h : Blk w g T #[c0, c1, c2, c3]) (v0 v1 v2 v3 : Value) : Blk ((((w.setCell ⟨g, 0, none⟩ v0).setCell ⟨g, 1, none⟩ v1).setCell ⟨g, 2, none⟩ v2).setCell ⟨g, 3, none⟩ v3) g T #[v0, v1, v2, v3] := by
  have := ((((h.set_ 0 v0).set_ 1 v1).set_ 2 v2).set_ 3 v3)
  simpa only [List.setIfInBounds_toArray, List.set_cons_zero, List.set_cons_succ] using this
theorem Blk.off4 {w : World} {g x : Nat} {T : TypeId} {cur : Array Value} (h : Blk w x T cur) (hne : x ≠ g) (v0 v1 v2 v3 : Value) : Blk ((((w.setCell ⟨g, 0, none⟩ v0).setCell ⟨g, 1, none⟩ v1).setCell ⟨g, 2, none⟩ v2).setCell ⟨g, 3, none⟩ v3) x T cur := ((((h.far (p := ⟨g, 0, none⟩) hne v0).far (p := ⟨g, 1, none⟩) hne v1).far (p := ⟨g, 2, none⟩) hne v2).far (p := ⟨g, 3, none⟩) hne v3)
theorem below_put4 {w w0 : World} {L g : Nat} (h : Below L w0 w) (hg : L ≤ g) (v0 v1 v2 v3 : Value) : Below L w0 ((((w.setCell ⟨g, 0, none⟩ v0).setCell ⟨g, 1, none⟩ v1).setCell ⟨g, 2, none⟩ v2).setCell ⟨g, 3, none⟩ v3) := ((((h.setCell (p := ⟨g, 0, none⟩) hg v0).setCell (p := ⟨g, 1, none⟩) hg v1).setCell (p := ⟨g, 2, none⟩) hg v2).setCell (p := ⟨g, 3, none⟩) hg v3)
theorem Blk.put5 {w : World} {g : Nat} {T : TypeId} {c0 c1 c2 c3 c4 : Value} (h : Blk w g T #[c0, c1, c2, c3, c4]) (v0 v1 v2 v3 v4 : Value) : Blk (((((w.setCell ⟨g, 0, none⟩ v0).setCell ⟨g, 1, none⟩ v1).setCell ⟨g, 2, none⟩ v2).setCell ⟨g, 3, none⟩ v3).setCell ⟨g, 4, none⟩ v4) g T #[v0, v1, v2, v3, v4] := by
  have := (((((h.set_ 0 v0).set_ 1 v1).set_ 2 v2).set_ 3 v3).set_ 4 v4)
  simpa only [List.setIfInBounds_toArray, List.set_cons_zero, List.set_cons_succ] using this
theorem Blk.off5 {w : World} {g x : Nat} {T : TypeId} {cur : Array Value} (h : Blk w x T cur) (hne : x ≠ g) (v0 v1 v2 v3 v4 : Value) : Blk (((((w.setCell ⟨g, 0, none⟩ v0).setCell ⟨g, 1, none⟩ v1).setCell ⟨g, 2, none⟩ v2).setCell ⟨g, 3, none⟩ v3).setCell ⟨g, 4, none⟩ v4) x T cur := (((((h.far (p := ⟨g, 0, none⟩) hne v0).far (p := ⟨g, 1, none⟩) hne v1).far (p := ⟨g, 2, none⟩) hne v2).far (p := ⟨g, 3, none⟩) hne v3).far (p := ⟨g, 4, none⟩) hne v4)
theorem below_put5 {w w0 : World} {L g : Nat} (h : Below L w0 w) (hg : L ≤ g) (v0 v1 v2 v3 v4 : Value) : Below L w0 (((((w.setCell ⟨g, 0, none⟩ v0).setCell ⟨g, 1, none⟩ v1).setCell ⟨g, 2, none⟩ v2).setCell ⟨g, 3, none⟩ v3).setCell ⟨g, 4, none⟩ v4) := (((((h.setCell (p := ⟨g, 0, none⟩) hg v0).setCell (p := ⟨g, 1, none⟩) hg v1).setCell (p := ⟨g, 2, none⟩) hg v2).setCell (p := ⟨g, 3, none⟩) hg v3).setCell (p := ⟨g, 4, none⟩) hg v4)
theorem Blk.put9 {w : World} {g : Nat} {T : TypeId} {c0 c1 c2 c3 c4 c5 c6 c7 c8 : Value} (h : Blk w g T #[c0, c1, c2, c3, c4, c5, c6, c7, c8]) (v0 v1 v2 v3 v4 v5 v6 v7 v8 : Value) : Blk (((((((((w.setCell ⟨g, 0, none⟩ v0).setCell ⟨g, 1, none⟩ v1).setCell ⟨g, 2, none⟩ v2).setCell ⟨g, 3, none⟩ v3).setCell ⟨g, 4, none⟩ v4).setCell ⟨g, 5, none⟩ v5).setCell ⟨g, 6, none⟩ v6).setCell ⟨g, 7, none⟩ v7).setCell ⟨g, 8, none⟩ v8) g T #[v0, v1, v2, v3, v4, v5, v6, v7, v8] := by
  have := (((((((((h.set_ 0 v0).set_ 1 v1).set_ 2 v2).set_ 3 v3).set_ 4 v4).set_ 5 v5).set_ 6 v6).set_ 7 v7).set_ 8 v8)
  simpa only [List.setIfInBounds_toArray, List.set_cons_zero, List.set_cons_succ] using this
theorem Blk.off9 {w : World} {g x : Nat} {T : TypeId} {cur : Array Value} (h : Blk w x T cur) (hne : x ≠ g) (v0 v1 v2 v3 v4 v5 v6 v7 v8 : Value) : Blk (((((((((w.setCell ⟨g, 0, none⟩ v0).setCell ⟨g, 1, none⟩ v1).setCell ⟨g, 2, none⟩ v2).setCell ⟨g, 3, none⟩ v3).setCell ⟨g, 4, none⟩ v4).setCell ⟨g, 5, none⟩ v5).setCell ⟨g, 6, none⟩ v6).setCell ⟨g, 7, none⟩ v7).setCell ⟨g, 8, none⟩ v8) x T cur := (((((((((h.far (p := ⟨g, 0, none⟩) hne v0).far (p := ⟨g, 1, none⟩) hne v1).far (p := ⟨g, 2, none⟩) hne v2).far (p := ⟨g, 3, none⟩) hne v3).far (p := ⟨g, 4, none⟩) hne v4).far (p := ⟨g, 5, none⟩) hne v5).far (p := ⟨g, 6, none⟩) hne v6).far (p := ⟨g, 7, none⟩) hne v7).far (p := ⟨g, 8, none⟩) hne v8)
theorem below_put9 {w w0 : World} {L g : Nat} (h : Below L w0 w) (hg : L ≤ g) (v0 v1 v2 v3 v4 v5 v6 v7 v8 : Value) : Below L w0 (((((((((w.setCell ⟨g, 0, none⟩ v0).setCell ⟨g, 1, none⟩ v1).setCell ⟨g, 2, none⟩ v2).setCell ⟨g, 3, none⟩ v3).setCell ⟨g, 4, none⟩ v4).setCell ⟨g, 5, none⟩ v5).setCell ⟨g, 6, none⟩ v6).setCell ⟨g, 7, none⟩ v7).setCell ⟨g, 8, none⟩ v8) := (((((((((h.setCell (p := ⟨g, 0, none⟩) hg v0).setCell (p := ⟨g, 1, none⟩) hg v1).setCell (p := ⟨g, 2, none⟩) hg v2).setCell (p := ⟨g, 3, none⟩) hg v3).setCell (p := ⟨g, 4, none⟩) hg v4).setCell (p := ⟨g, 5, none⟩) hg v5).setCell (p := ⟨g, 6, none⟩) hg v6).setCell (p := ⟨g, 7, none⟩) hg v7).setCell (p := ⟨g, 8, none⟩) hg v8)
theorem Blk.put10 {w : World} {g : Nat} {T : TypeId} {c0 c1 c2 c3 c4 c5 c6 c7 c8 c9 : Value} (h : Blk w g T #[c0, c1, c2, c3, c4, c5, c6, c7, c8, c9]) (v0 v1 v2 v3 v4 v5 v6 v7 v8 v9 : Value) : Blk ((((((((((w.setCell ⟨g, 0, none⟩ v0).setCell ⟨g, 1, none⟩ v1).setCell ⟨g, 2, none⟩ v2).setCell ⟨g, 3, none⟩ v3).setCell ⟨g, 4, none⟩ v4).setCell ⟨g, 5, none⟩ v5).setCell ⟨g, 6, none⟩ v6).setCell ⟨g, 7, none⟩ v7).setCell ⟨g, 8, none⟩ v8).setCell ⟨g, 9, none⟩ v9) g T #[v0, v1, v2, v3, v4, v5, v6, v7, v8, v9] := by
  have := ((((((((((h.set_ 0 v0).set_ 1 v1).set_ 2 v2).set_ 3 v3).set_ 4 v4).set_ 5 v5).set_ 6 v6).set_ 7 v7).set_ 8 v8).set_ 9 v9)
  simpa only [List.setIfInBounds_toArray, List.set_cons_zero, List.set_cons_succ] using this
theorem Blk.off10 {w : World} {g x : Nat} {T : TypeId} {cur : Array Value} (h : Blk w x T cur) (hne : x ≠ g) (v0 v1 v2 v3 v4 v5 v6 v7 v8 v9 : Value) : Blk ((((((((((w.setCell ⟨g, 0, none⟩ v0).setCell ⟨g, 1, none⟩ v1).setCell ⟨g, 2, none⟩ v2).setCell ⟨g, 3, none⟩ v3).setCell ⟨g, 4, none⟩ v4).setCell ⟨g, 5, none⟩ v5).setCell ⟨g, 6, none⟩ v6).setCell ⟨g, 7, none⟩ v7).setCell ⟨g, 8, none⟩ v8).setCell ⟨g, 9, none⟩ v9) x T cur := ((((((((((h.far (p := ⟨g, 0, none⟩) hne v0).far (p := ⟨g, 1, none⟩) hne v1).far (p := ⟨g, 2, none⟩) hne v2).far (p := ⟨g, 3, none⟩) hne v3).far (p := ⟨g, 4, none⟩) hne v4).far (p := ⟨g, 5, none⟩) hne v5).far (p := ⟨g, 6, none⟩) hne v6).far (p := ⟨g, 7, none⟩) hne v7).far (p := ⟨g, 8, none⟩) hne v8).far (p := ⟨g, 9, none⟩) hne v9)
theorem below_put10 {w w0 : World} {L g : Nat} (h : Below L w0 w) (hg : L ≤ g) (v0 v1 v2 v3 v4 v5 v6 v7 v8 v9 : Value) : Below L w0 ((((((((((w.setCell ⟨g, 0, none⟩ v0).setCell ⟨g, 1, none⟩ v1).setCell ⟨g, 2, none⟩ v2).setCell ⟨g, 3, none⟩ v3).setCell ⟨g, 4, none⟩ v4).setCell ⟨g, 5, none⟩ v5).setCell ⟨g, 6, none⟩ v6).setCell ⟨g, 7, none⟩ v7).setCell ⟨g, 8, none⟩ v8).setCell ⟨g, 9, none⟩ v9) := ((((((((((h.setCell (p := ⟨g, 0, none⟩) hg v0).setCell (p := ⟨g, 1, none⟩) hg v1).setCell (p := ⟨g, 2, none⟩) hg v2).setCell (p := ⟨g, 3, none⟩) hg v3).setCell (p := ⟨g, 4, none⟩) hg v4).setCell (p := ⟨g, 5, none⟩) hg v5).setCell (p := ⟨g, 6, none⟩) hg v6).setCell (p := ⟨g, 7, none⟩) hg v7).setCell (p := ⟨g, 8, none⟩) hg v8).setCell (p := ⟨g, 9, none⟩) hg v9)
theorem Blk.put14 {w : World} {g : Nat} {T : TypeId} {c0 c1 c2 c3 c4 c5 c6 c7 c8 c9 c10 c11 c12 c13 : Value} (h : Blk w g T #[c0, c1, c2, c3, c4, c5, c6, c7, c8, c9, c10, c11, c12, c13]) (v0 v1 v2 v3 v4 v5 v6 v7 v8 v9 v10 v11 v12 v13 : Value) : Blk ((((((((((((((w.setCell ⟨g, 0, none⟩ v0).setCell ⟨g, 1, none⟩ v1).setCell ⟨g, 2, none⟩ v2).setCell ⟨g, 3, none⟩ v3).setCell ⟨g, 4, none⟩ v4).setCell ⟨g, 5, none⟩ v5).setCell ⟨g, 6, none⟩ v6).setCell ⟨g, 7, none⟩ v7).setCell ⟨g, 8, none⟩ v8).setCell ⟨g, 9, none⟩ v9).setCell ⟨g, 10, none⟩ v10).setCell ⟨g, 11, none⟩ v11).setCell ⟨g, 12, none⟩ v12).setCell ⟨g, 13, none⟩ v13) g T #[v0, v1, v2, v3, v4, v5, v6, v7, v8, v9, v10, v11, v12, v13] := by
  have := ((((((((((((((h.set_ 0 v0).set_ 1 v1).set_ 2 v2).set_ 3 v3).set_ 4 v4).set_ 5 v5).set_ 6 v6).set_ 7 v7).set_ 8 v8).set_ 9 v9).set_ 10 v10).set_ 11 v11).set_ 12 v12).set_ 13 v13)
  simpa only [List.setIfInBounds_toArray, List.set_cons_zero, List.set_cons_succ] using this
theorem Blk.off14 {w : World} {g x : Nat} {T : TypeId} {cur : Array Value} (h : Blk w x T cur) (hne : x ≠ g) (v0 v1 v2 v3 v4 v5 v6 v7 v8 v9 v10 v11 v12 v13 : Value) : Blk ((((((((((((((w.setCell ⟨g, 0, none⟩ v0).setCell ⟨g, 1, none⟩ v1).setCell ⟨g, 2, none⟩ v2).setCell ⟨g, 3, none⟩ v3).setCell ⟨g, 4, none⟩ v4).setCell ⟨g, 5, none⟩ v5).setCell ⟨g, 6, none⟩ v6).setCell ⟨g, 7, none⟩ v7).setCell ⟨g, 8, none⟩ v8).setCell ⟨g, 9, none⟩ v9).setCell ⟨g, 10, none⟩ v10).setCell ⟨g, 11, none⟩ v11).setCell ⟨g, 12, none⟩ v12).setCell ⟨g, 13, none⟩ v13) x T cur := ((((((((((((((h.far (p := ⟨g, 0, none⟩) hne v0).far (p := ⟨g, 1, none⟩) hne v1).far (p := ⟨g, 2, none⟩) hne v2).far (p := ⟨g, 3, none⟩) hne v3).far (p := ⟨g, 4, none⟩) hne v4).far (p := ⟨g, 5, none⟩) hne v5).far (p := ⟨g, 6, none⟩) hne v6).far (p := ⟨g, 7, none⟩) hne v7).far (p := ⟨g, 8, none⟩) hne v8).far (p := ⟨g, 9, none⟩) hne v9).far (p := ⟨g, 10, none⟩) hne v10).far (p := ⟨g, 11, none⟩) hne v11).far (p := ⟨g, 12, none⟩) hne v12).far (p := ⟨g, 13, none⟩) hne v13)
theorem below_put14 {w w0 : World} {L g : Nat} (h : Below L w0 w) (hg : L ≤ g) (v0 v1 v2 v3 v4 v5 v6 v7 v8 v9 v10 v11 v12 v13 : Value) : Below L w0 ((((((((((((((w.setCell ⟨g, 0, none⟩ v0).setCell ⟨g, 1, none⟩ v1).setCell ⟨g, 2, none⟩ v2).setCell ⟨g, 3, none⟩ v3).setCell ⟨g, 4, none⟩ v4).setCell ⟨g, 5, none⟩ v5).setCell ⟨g, 6, none⟩ v6).setCell ⟨g, 7, none⟩ v7).setCell ⟨g, 8, none⟩ v8).setCell ⟨g, 9, none⟩ v9).setCell ⟨g, 10, none⟩ v10).setCell ⟨g, 11, none⟩ v11).setCell ⟨g, 12, none⟩ v12).setCell ⟨g, 13, none⟩ v13) := ((((((((((((((h.setCell (p := ⟨g, 0, none⟩) hg v0).setCell (p := ⟨g, 1, none⟩) hg v1).setCell (p := ⟨g, 2, none⟩) hg v2).setCell (p := ⟨g, 3, none⟩) hg v3).setCell (p := ⟨g, 4, none⟩) hg v4).setCell (p := ⟨g, 5, none⟩) hg v5).setCell (p := ⟨g, 6, none⟩) hg v6).setCell (p := ⟨g, 7, none⟩) hg v7).setCell (p := ⟨g, 8, none⟩) hg v8).setCell (p := ⟨g, 9, none⟩) hg v9).setCell (p := ⟨g, 10, none⟩) hg v10).setCell (p := ⟨g, 11, none⟩) hg v11).setCell (p := ⟨g, 12, none⟩) hg v12).setCell (p := ⟨g, 13, none⟩) hg v13)
end Go.Proofs.YteiidfklepjpmaaDoor

/-
  What Pop and Push have in common; a Pop told what it is told.
-/
namespace Go.Proofs.YteiidfklepjpmaaDoor
open Go.RowKit
attribute [local go_sem] past_cell past_cell_add

set_option maxHeartbeats 1000000 in
theorem headAt_any (s t f l p sl hd tr k : Int) (w : World) (hs : 1 ≤ s ∧ s ≤ 1000) (ht : 1 ≤ t ∧ t ≤ 64) (hf : 4 ≤ f ∧ f ≤ 64) :
    Calls Tryd.prog 37 #[.agg #[.int .i64 s, .int .i64 t, .int .i64 f, .int .i64 l, .int .i64 p, .int .i64 k, .int .i64 sl, .int .u64 hd, .int .i64 tr]] w fun e w' => e = .returned (.int .i64 2) ∧ Below w.heap.size w w' := by
  have C := hide (fun w2 => at_any s t f l p 3 0 0 w2 hs ht hf)
  rw [atp_first (k := 3) (by omega), show (3 : Int) - 1 = 2 from rfl] at C
  have bx := Blk.new w 35 #[.int .i64 s, .int .i64 t, .int .i64 f, .int .i64 l, .int .i64 p, .int .i64 k, .int .i64 sl, .int .u64 hd, .int .i64 tr]
  have B0 := (Below.refl w.heap.size w).alloc (Nat.le_refl _) (.cells #[.int .i64 s, .int .i64 t, .int .i64 f, .int .i64 l, .int .i64 p, .int .i64 k, .int .i64 sl, .int .u64 hd, .int .i64 tr] 35)
  go_enter Tryd.func37, Tryd.ntmps37
  go_wp2_with fail
  refine (C.out _).mono ?_
  rintro e w1 ⟨rfl, hb1⟩
  try replace bx := bx.below hb1 bx.lt
  try replace bo := bo.below hb1 bo.lt
  try replace by_ := by_.below hb1 by_.lt
  replace B0 := B0.trans (hb1.mono B0.size)
  clear hb1
  try clear mx lx
  try clear mo lo zo
  try clear my ly zy
  try have mx := fun i => bx.cell i
  try have lx := bx.lt
  try have mo := fun i => bo.cell i
  try have lo := bo.lt
  try have zo := fun i => bo.frozen i
  try have my := fun i => by_.cell i
  try have ly := by_.lt
  try have zy := fun i => by_.frozen i
  go_wp2_with fail
  go_ret
  exact ⟨rfl, B0⟩
set_option maxRecDepth 100000 in
set_option maxHeartbeats 1000000 in
theorem bwithin_t (s t f l p sl hd tr k n : Int) (w : World) (h0 : 1 ≤ n) (h1 : n ≤ s) :
    Calls Tryd.prog 33 #[.agg #[.int .i64 s, .int .i64 t, .int .i64 f, .int .i64 l, .int .i64 p, .int .i64 k, .int .i64 sl, .int .u64 hd, .int .i64 tr], .int .i64 n] w fun e w' => e = .returned (.bool true) ∧ Below w.heap.size w w' := by
  have C := hide (fun w2 => lconfig_any s t f l p w2)
  have hf : ∀ w : World, (Instr.field 23 (.agg #[.int .i64 s, .int .i64 t, .int .i64 f, .int .i64 l, .int .i64 p]) 0).run Tryd.prog w = .ok (.int .i64 s) w := fun _ => by kernel_rfl
  skip
  skip
  have bx := Blk.new w 35 #[.int .i64 s, .int .i64 t, .int .i64 f, .int .i64 l, .int .i64 p, .int .i64 k, .int .i64 sl, .int .u64 hd, .int .i64 tr]
  have B0 := (Below.refl w.heap.size w).alloc (Nat.le_refl _) (.cells #[.int .i64 s, .int .i64 t, .int .i64 f, .int .i64 l, .int .i64 p, .int .i64 k, .int .i64 sl, .int .u64 hd, .int .i64 tr] 35)
  go_enter Tryd.func33, Tryd.ntmps33
  go_wp2_with fail
  refine (C.out _).mono ?_
  rintro e w1 ⟨rfl, hb1⟩
  try replace bx := bx.below hb1 bx.lt
  try replace bo := bo.below hb1 bo.lt
  try replace by_ := by_.below hb1 by_.lt
  replace B0 := B0.trans (hb1.mono B0.size)
  clear hb1
  try clear mx lx
  try clear mo lo zo
  try clear my ly zy
  try have mx := fun i => bx.cell i
  try have lx := bx.lt
  try have mo := fun i => bo.cell i
  try have lo := bo.lt
  try have zo := fun i => bo.frozen i
  try have my := fun i => by_.cell i
  try have ly := by_.lt
  try have zy := fun i => by_.frozen i
  go_wp2_with fail
  go_ret
  exact ⟨by first | rfl | simp [h2], B0⟩
set_option maxRecDepth 100000 in
set_option maxHeartbeats 1000000 in
theorem bwithin_f1 (s t f l p sl hd tr k n : Int) (w : World) (h0 : n < 1) :
    Calls Tryd.prog 33 #[.agg #[.int .i64 s, .int .i64 t, .int .i64 f, .int .i64 l, .int .i64 p, .int .i64 k, .int .i64 sl, .int .u64 hd, .int .i64 tr], .int .i64 n] w fun e w' => e = .returned (.bool false) ∧ Below w.heap.size w w' := by

  skip
  have h2 : ¬ 1 ≤ n := by omega
  have bx := Blk.new w 35 #[.int .i64 s, .int .i64 t, .int .i64 f, .int .i64 l, .int .i64 p, .int .i64 k, .int .i64 sl, .int .u64 hd, .int .i64 tr]
  have B0 := (Below.refl w.heap.size w).alloc (Nat.le_refl _) (.cells #[.int .i64 s, .int .i64 t, .int .i64 f, .int .i64 l, .int .i64 p, .int .i64 k, .int .i64 sl, .int .u64 hd, .int .i64 tr] 35)
  go_enter Tryd.func33, Tryd.ntmps33
  go_wp2_with fail

  go_ret
  exact ⟨by first | rfl | simp [h2], B0⟩
set_option maxRecDepth 100000 in
set_option maxHeartbeats 1000000 in
theorem bwithin_f2 (s t f l p sl hd tr k n : Int) (w : World) (h0 : 1 ≤ n) (h1 : s < n) :
    Calls Tryd.prog 33 #[.agg #[.int .i64 s, .int .i64 t, .int .i64 f, .int .i64 l, .int .i64 p, .int .i64 k, .int .i64 sl, .int .u64 hd, .int .i64 tr], .int .i64 n] w fun e w' => e = .returned (.bool false) ∧ Below w.heap.size w w' := by
  have C := hide (fun w2 => lconfig_any s t f l p w2)
  have hf : ∀ w : World, (Instr.field 23 (.agg #[.int .i64 s, .int .i64 t, .int .i64 f, .int .i64 l, .int .i64 p]) 0).run Tryd.prog w = .ok (.int .i64 s) w := fun _ => by kernel_rfl
  have h2 : ¬ n ≤ s := by omega
  skip
  have bx := Blk.new w 35 #[.int .i64 s, .int .i64 t, .int .i64 f, .int .i64 l, .int .i64 p, .int .i64 k, .int .i64 sl, .int .u64 hd, .int .i64 tr]
  have B0 := (Below.refl w.heap.size w).alloc (Nat.le_refl _) (.cells #[.int .i64 s, .int .i64 t, .int .i64 f, .int .i64 l, .int .i64 p, .int .i64 k, .int .i64 sl, .int .u64 hd, .int .i64 tr] 35)
  go_enter Tryd.func33, Tryd.ntmps33
  go_wp2_with fail
  refine (C.out _).mono ?_
  rintro e w1 ⟨rfl, hb1⟩
  try replace bx := bx.below hb1 bx.lt
  try replace bo := bo.below hb1 bo.lt
  try replace by_ := by_.below hb1 by_.lt
  replace B0 := B0.trans (hb1.mono B0.size)
  clear hb1
  try clear mx lx
  try clear mo lo zo
  try clear my ly zy
  try have mx := fun i => bx.cell i
  try have lx := bx.lt
  try have mo := fun i => bo.cell i
  try have lo := bo.lt
  try have zo := fun i => bo.frozen i
  try have my := fun i => by_.cell i
  try have ly := by_.lt
  try have zy := fun i => by_.frozen i
  go_wp2_with fail
  go_ret
  exact ⟨by first | rfl | simp [h2], B0⟩
set_option maxHeartbeats 1000000 in
theorem sload_any (a : Int) (w : World) :
    Calls Tryd.prog 36 #[.int .i64 a] w fun e w' => e = .returned (.agg #[.int .i64 1, .int .i64 a, .int .u64 0, .int .u64 0]) ∧ Below w.heap.size w w' := by
  go_enter Tryd.func36, Tryd.ntmps36
  go_wp2_with fail
  refine bodyPost_ret (v := .agg #[.int .i64 1, .int .i64 a, .int .u64 0, .int .u64 0]) (by simp [results, Tryd.results36, go_sem]) rfl ⟨rfl, ?_⟩
  repeat (first | exact Below.refl _ _ | exact B0 | (refine Below.setCell ?_ (by first | (show w.heap.size ≤ w.heap.size; omega) | (show w.heap.size ≤ w.heap.size + 1; omega) | (show w.heap.size ≤ w.heap.size + 2; omega) | (show w.heap.size ≤ _; simp)) _) | (refine Below.alloc ?_ (by first | exact Nat.le_refl _ | (simp <;> omega)) _))
set_option maxHeartbeats 2000000 in
theorem swap_any (s t f l p sl hd tr k tt : Int) (w : World) (hs : 1 ≤ s ∧ s ≤ 1000) (ht : 1 ≤ t ∧ t ≤ 64) (hf : 4 ≤ f ∧ f ≤ 64) (hh : W64 hd) (hto : I64 tt) :
    Calls Tryd.prog 39 #[.agg #[.int .i64 s, .int .i64 t, .int .i64 f, .int .i64 l, .int .i64 p, .int .i64 k, .int .i64 sl, .int .u64 hd, .int .i64 tr], .int .i64 tt] w fun e w' => e = .returned (.agg #[.int .i64 3, .int .i64 2, .int .u64 hd, .int .u64 (hturn hd tt)]) ∧ Below w.heap.size w w' := by
  have C := hide (fun w2 => headAt_any s t f l p sl hd tr k w2 hs ht hf)
  have M := hide (fun w2 => hturn_any hd tt w2 hh hto)
  generalize hturn hd tt = y at *
  have bx := Blk.new w 35 #[.int .i64 s, .int .i64 t, .int .i64 f, .int .i64 l, .int .i64 p, .int .i64 k, .int .i64 sl, .int .u64 hd, .int .i64 tr]
  have B0 := (Below.refl w.heap.size w).alloc (Nat.le_refl _) (.cells #[.int .i64 s, .int .i64 t, .int .i64 f, .int .i64 l, .int .i64 p, .int .i64 k, .int .i64 sl, .int .u64 hd, .int .i64 tr] 35)
  have bo := Blk.new (w.alloc (.cells #[.int .i64 s, .int .i64 t, .int .i64 f, .int .i64 l, .int .i64 p, .int .i64 k, .int .i64 sl, .int .u64 hd, .int .i64 tr] 35)) 52 #[.int .i64 0, .int .i64 0, .int .u64 0, .int .u64 0]
  replace B0 := B0.alloc B0.size (.cells #[.int .i64 0, .int .i64 0, .int .u64 0, .int .u64 0] 52)
  replace bx := bx.alloc (.cells #[.int .i64 0, .int .i64 0, .int .u64 0, .int .u64 0] 52)
  rw [World.size_alloc] at bo
  go_enter Tryd.func39, Tryd.ntmps39
  go_wp2_with fail
  generalize (w.alloc (.cells #[.int .i64 s, .int .i64 t, .int .i64 f, .int .i64 l, .int .i64 p, .int .i64 k, .int .i64 sl, .int .u64 hd, .int .i64 tr] 35)).alloc (.cells #[.int .i64 0, .int .i64 0, .int .u64 0, .int .u64 0] 52) = w0 at *
  have bd := bx.drewN 1
  have od := bo.drewN 1
  have Bd := below_drewN B0 1
  try clear mx lx
  try clear mo lo zo
  try clear my ly zy
  try have mx := fun i => bx.cell i
  try have lx := bx.lt
  try have mo := fun i => bo.cell i
  try have lo := bo.lt
  try have zo := fun i => bo.frozen i
  try have my := fun i => by_.cell i
  try have ly := by_.lt
  try have zy := fun i => by_.frozen i
  go_region_held3 (fun w' => w'.cell? ⟨w.heap.size, 0, none⟩ = some (.int .i64 s) ∧ w'.cell? ⟨w.heap.size, 1, none⟩ = some (.int .i64 t) ∧ w'.cell? ⟨w.heap.size, 2, none⟩ = some (.int .i64 f) ∧ w'.cell? ⟨w.heap.size, 3, none⟩ = some (.int .i64 l) ∧ w'.cell? ⟨w.heap.size, 4, none⟩ = some (.int .i64 p) ∧ w'.cell? ⟨w.heap.size, 5, none⟩ = some (.int .i64 k) ∧ w'.cell? ⟨w.heap.size, 6, none⟩ = some (.int .i64 sl) ∧ w'.cell? ⟨w.heap.size, 7, none⟩ = some (.int .u64 hd) ∧ w'.cell? ⟨w.heap.size, 8, none⟩ = some (.int .i64 tr)) (go_keep) ((first | (go_at_call 37; refine (C.out _).mono ?_; rintro e w1 ⟨rfl, hb1⟩; have bd := bd.below hb1 bd.lt; have od := od.below hb1 od.lt; have Bd := Bd.trans (hb1.mono Bd.size); have md := fun i => bd.cell i; have nd := fun i => od.cell i; have zd := fun i => od.frozen i; have ld := bd.lt; have kd := od.lt) | (go_at_call 47; refine (M.out _).mono ?_; rintro e w1 ⟨rfl, hb1⟩; have bd := bd.below hb1 bd.lt; have od := od.below hb1 od.lt; have Bd := Bd.trans (hb1.mono Bd.size); have md := fun i => bd.cell i; have nd := fun i => od.cell i; have zd := fun i => od.frozen i; have ld := bd.lt; have kd := od.lt)))
  all_goals
    go_wp2_with fail
    have b9 := od.put4 (.int .i64 3) (.int .i64 2) (.int .u64 hd) (.int .u64 y)
    have B9 := below_put4 Bd (g := w.heap.size + 1) (by omega) (.int .i64 3) (.int .i64 2) (.int .u64 hd) (.int .u64 y)
    have m9 := fun i => b9.cell i
    refine bodyPost_ret (v := .agg #[.int .i64 3, .int .i64 2, .int .u64 hd, .int .u64 y]) (by simp [results, Tryd.results39, go_sem, m9]) rfl ⟨rfl, B9⟩
set_option maxRecDepth 100000 in
set_option maxHeartbeats 1000000 in
theorem swapped_1 (s t f l p sl hd tr k : Int) (w : World)  :
    Calls Tryd.prog 35 #[.agg #[.int .i64 s, .int .i64 t, .int .i64 f, .int .i64 l, .int .i64 p, .int .i64 k, .int .i64 sl, .int .u64 hd, .int .i64 tr], .int .u64 1] w fun e w' => e = .returned (.agg #[.int .i64 s, .int .i64 t, .int .i64 f, .int .i64 l, .int .i64 p, .int .i64 0, .int .i64 sl, .int .u64 hd, .int .i64 tr]) ∧ Below w.heap.size w w' := by
  go_enter Tryd.func35, Tryd.ntmps35
  go_wp2_with fail
  refine bodyPost_ret (v := .agg #[.int .i64 s, .int .i64 t, .int .i64 f, .int .i64 l, .int .i64 p, .int .i64 0, .int .i64 sl, .int .u64 hd, .int .i64 tr]) (by simp [results, Tryd.results35, go_sem]) rfl ⟨rfl, ?_⟩
  repeat (first | exact Below.refl _ _ | exact B0 | (refine Below.setCell ?_ (by first | (show w.heap.size ≤ w.heap.size; omega) | (show w.heap.size ≤ w.heap.size + 1; omega) | (show w.heap.size ≤ w.heap.size + 2; omega) | (show w.heap.size ≤ _; simp)) _) | (refine Below.alloc ?_ (by first | exact Nat.le_refl _ | (simp <;> omega)) _))
set_option maxRecDepth 100000 in
set_option maxHeartbeats 1000000 in
theorem swapped_n (s t f l p sl hd tr k g : Int) (w : World) (hg : (g == 1) = false) :
    Calls Tryd.prog 35 #[.agg #[.int .i64 s, .int .i64 t, .int .i64 f, .int .i64 l, .int .i64 p, .int .i64 k, .int .i64 sl, .int .u64 hd, .int .i64 tr], .int .u64 g] w fun e w' => e = .returned (.agg #[.int .i64 s, .int .i64 t, .int .i64 f, .int .i64 l, .int .i64 p, .int .i64 1, .int .i64 sl, .int .u64 hd, .int .i64 (wrap64 (tr + 1))]) ∧ Below w.heap.size w w' := by
  go_enter Tryd.func35, Tryd.ntmps35
  go_wp2_with fail
  refine bodyPost_ret (v := .agg #[.int .i64 s, .int .i64 t, .int .i64 f, .int .i64 l, .int .i64 p, .int .i64 1, .int .i64 sl, .int .u64 hd, .int .i64 (wrap64 (tr + 1))]) (by simp [results, Tryd.results35, go_sem]) rfl ⟨rfl, ?_⟩
  repeat (first | exact Below.refl _ _ | exact B0 | (refine Below.setCell ?_ (by first | (show w.heap.size ≤ w.heap.size; omega) | (show w.heap.size ≤ w.heap.size + 1; omega) | (show w.heap.size ≤ w.heap.size + 2; omega) | (show w.heap.size ≤ _; simp)) _) | (refine Below.alloc ?_ (by first | exact Nat.le_refl _ | (simp <;> omega)) _))
end Go.Proofs.YteiidfklepjpmaaDoor

