/-
  memory.Words, Write, Copy; the example of chapter 9.
-/
import Derived.Test.YtpkocgcagemnbaaDoorMemoD
namespace Go.Proofs.YtpkocgcagemnbaaDoor
open Go.RowKit
attribute [local go_sem] past_cell past_cell_add

set_option maxHeartbeats 1000000 in
theorem awake09 (w : World) (hT : Tab w) : Calls Tryd.prog 24 #[] w fun e w' => e = .returned (.bool true) ∧ Below w.heap.size w w' := by
  have NW := hide (mnew_yes 1 1 4 1 1 28 w hT (by decide) (by decide))
  have eA : mAll (zs 28) [(3, 1, 0, 7), (3, 1, 0, 7), (1, 1, 0, 0)] 3 = ([1, 0, 7], (mAll (zs 28) [(3, 1, 0, 7), (3, 1, 0, 7), (1, 1, 0, 0)] 3).2) := by decide
  have AA := hide (fun (w1 : World) gm gw (hm : MemOk w1 gm gw 1 1 4 1 1 (zs 28)) hr hne => all_any gm gw 1 1 4 1 1 (some ⟨w1.heap.size, 0, none⟩) 3 3 (zs 28) [(3, 1, 0, 7), (3, 1, 0, 7), (1, 1, 0, 0)] (w1.alloc (.cells #[.int .i64 3, .int .i64 1, .int .u64 0, .int .u64 7, .int .i64 3, .int .i64 1, .int .u64 0, .int .u64 7, .int .i64 1, .int .i64 1, .int .u64 0, .int .u64 0] 46)) (by omega) (hm.below ((Below.refl _ _).alloc (Nat.le_refl _) _)) hr hne)
  rw [eA] at AA
  simp only [] at AA
  clear eA
  go_enter Tryd.func24, Tryd.ntmps24
  go_wp2_with fail
  refine NW.out.mono ?_
  rintro e w1 ⟨⟨gm, gw, rfl, hm, lm, lw⟩, B0⟩
  have HM := hide hm
  have lgw : gw < w1.heap.size := hm.2.1.lt
  clear hm
  go_wp2_with fail
  have hr := Reads.new w1 [.int .i64 3, .int .i64 1, .int .u64 0, .int .u64 7, .int .i64 3, .int .i64 1, .int .u64 0, .int .u64 7, .int .i64 1, .int .i64 1, .int .u64 0, .int .u64 0] 46 3 4 rfl
  refine (AA.out w1 gm gw HM.out (by rw [World.size_alloc]; exact hr) (fun ad h => by injection h with h; subst h; show w1.heap.size ≠ gw; omega)).mono ?_
  rintro e w2 ⟨⟨v, rfl, ho⟩, hm2, hg⟩
  obtain ⟨g, cap, rfl, _, _⟩ := ho.form (by decide)
  have hc := ho.cells (g := g) rfl
  have z0 := hc 0 (.int .u64 1) rfl
  have z1 := hc 1 (.int .u64 0) rfl
  have z2 := hc 2 (.int .u64 7) rfl
  rw [Addr.add_lit] at z0 z1 z2
  have B1 := below_grown (B0.alloc B0.size _) hg lw (by have := B0.size; simp only [World.size_alloc]; omega)
  have HB := hide B1
  clear hc ho hm2 hg B1 hr B0 lgw
  go_wp2_with fail
  go_ret
  exact ⟨rfl, HB.out⟩

/-- Some words of a memory. -/
def cutW (ws : List Int) (a b : Int) : List Int := (ws.take (min b ws.length).toNat).drop (max a 0).toNat
theorem cutW_none {ws : List Int} {a b : Int} (h : min b ws.length ≤ max a 0) : cutW ws a b = [] := by
  unfold cutW
  apply List.eq_nil_of_length_eq_zero
  simp only [List.length_drop, List.length_take]
  omega
set_option maxHeartbeats 1000000 in
theorem words_nil (a b : Int) (w : World) : Calls Tryd.prog 30 #[.pointer none, .int .i64 a, .int .i64 b] w fun e w' => e = .returned (.slice none 0 0) ∧ Below w.heap.size w w' := by
  go_enter Tryd.func30, Tryd.ntmps30
  go_wp2_with fail
  go_ret
  exact ⟨rfl, Below.refl _ _⟩
set_option maxHeartbeats 1000000 in
theorem words_none (gm N : Nat) (A : Option Addr) (a b : Int) (w : World) (hm : WordsAt w gm A N) (hab : min b (N : Int) ≤ max a 0) : Calls Tryd.prog 30 #[.pointer (some ⟨gm, 0, none⟩), .int .i64 a, .int .i64 b] w fun e w' => e = .returned (.slice none 0 0) ∧ Below w.heap.size w w' := by
  unfold WordsAt at hm
  generalize hx : max a 0 = x at *
  generalize hy : min b (N : Int) = y at *
  go_enter Tryd.func30, Tryd.ntmps30
  go_wp2_with fail
  go_quiet (fail)
  go_wp2_with fail
  go_ret
  exact ⟨rfl, below_drewN (Below.refl _ _) _⟩

theorem reads_words {w : World} {gw : Nat} {ws : List Int} (h : Blk w gw 43 (ints .u64 ws).toArray) : Reads w w.heap.size 1 (some ⟨gw, 0, none⟩) ws.length (ints .u64 ws) := by
  have := Reads.blk h ws.length 1 (by simp [ints])
  exact this.more h.lt
theorem reads_cutw {w : World} {B N x y : Nat} {A : Option Addr} {l : List Int} (h : Reads w B 1 A N (ints .u64 l)) (hxy : x < y) (hy : y ≤ N) : Reads w B 1 (A.map (·.add x)) (y - x) (ints .u64 ((l.take y).drop x)) := by
  have hl := h.lenWord
  refine ⟨by rw [ints_len]; simp; omega, fun _ => ?_⟩
  obtain ⟨ad, rfl, hb, hc⟩ := h.2 (by omega)
  refine ⟨ad.add x, rfl, by rw [block_of_add]; exact hb, fun j u hu => ?_⟩
  rw [add_of_add]
  refine hc (x + j) u ?_
  unfold ints at *
  rw [List.map_drop, List.map_take, List.getElem?_drop, List.getElem?_take] at hu
  split at hu
  · exact hu
  · cases hu
set_option maxHeartbeats 1000000 in
theorem words_some (gm gw x y : Nat) (s t f l p a b : Int) (ws : List Int) (w : World) (hm : MemOk w gm gw s t f l p ws) (hN : ws.length ≤ 1000000) (hx : max a 0 = x) (hy : min b (ws.length : Int) = y) (hxy : x < y) :
    Calls Tryd.prog 30 #[.pointer (some ⟨gm, 0, none⟩), .int .i64 a, .int .i64 b] w fun e w' => (∃ u, e = .returned u ∧ Own w' w.heap.size u (cutW ws a b)) ∧ Below w.heap.size w w' := by
  have hyN : y ≤ ws.length := by omega
  have hr := reads_cutw (reads_words hm.2.1) hxy hyN
  have e : cutW ws a b = (ws.take y).drop x := by
    unfold cutW
    rw [hx, hy, Int.toNat_natCast, Int.toNat_natCast]
  have hlen : ((ws.take y).drop x).length = y - x := by simp; omega
  rw [← e] at hr hlen
  have hc := hm.words
  have CL := hide (fun k => clone_any (.slice (some ((⟨gw, 0, none⟩ : Addr).add x)) (y - x) (y - x)) (cutW ws a b) (w.drewN k) (by omega) ⟨_, y - x, by rw [hlen], by omega, by omega, by rw [hlen]; exact hr⟩)
  unfold WordsAt at hc
  clear hm hr e hlen
  rw [Addr.add_lit, Nat.zero_add] at CL
  generalize cutW ws a b = ys at *
  have hyz : (y : Int) ≤ (ws.length : Int) := by omega
  have hxz : (x : Int) < (y : Int) := by omega
  generalize ws.length = N at *
  go_enter Tryd.func30, Tryd.ntmps30
  go_wp2_with fail
  go_quiet (fail)
  go_wp2_with fail
  refine (CL.out _).mono ?_
  rintro e w2 ⟨⟨u, rfl, hu⟩, hb2⟩
  go_wp2_with fail
  go_ret
  exact ⟨⟨_, rfl, hu⟩, (below_drewN (Below.refl _ _) _).trans hb2⟩

/-- Writes as cells. -/
def recW (l : List (Int × Int)) : List Value := l.flatMap fun r => [.int .i64 r.1, .int .u64 r.2]
theorem recW_len (l : List (Int × Int)) : (recW l).length = l.length * 2 := by
  induction l with
  | nil => rfl
  | cons r l ih =>
    have : (recW (r :: l)) = .int .i64 r.1 :: .int .u64 r.2 :: recW l := rfl
    rw [this]
    simp only [List.length_cons, ih]
    omega
theorem recW_get (l : List (Int × Int)) : ∀ (k : Nat) (h : k < l.length), (recW l)[k * 2]? = some (.int .i64 l[k].1) ∧ (recW l)[k * 2 + 1]? = some (.int .u64 l[k].2) := by
  induction l with
  | nil => intro k h; simp at h
  | cons r l ih =>
    intro k h
    cases k with
    | zero => simp [recW]
    | succ k =>
      have := ih k (by simpa using h)
      have e1 : (k + 1) * 2 = k * 2 + 2 := by omega
      have e2 : (k + 1) * 2 + 1 = k * 2 + 1 + 2 := by omega
      simpa [recW, e1, e2] using this
theorem Reads.wri {w : World} {B n k : Nat} {A : Option Addr} {l : List (Int × Int)} (h : Reads w B 2 A n (recW l)) (hk : k < n) :
    ∃ a, A = some a ∧ a.block < B ∧ ∃ hl : k < l.length, w.cell? (a.add (k * 2)) = some (.int .i64 l[k].1) ∧ w.cell? ⟨(a.add (k * 2)).block, (a.add (k * 2)).off + 1, none⟩ = some (.int .u64 l[k].2) := by
  have hl : k < l.length := by
    have := h.1
    rw [recW_len] at this
    omega
  obtain ⟨a, ha, hb, x, y⟩ := h.row hk
  obtain ⟨y1, y2⟩ := recW_get l k hl
  exact ⟨a, ha, hb, hl, (x (by omega)).trans y1, (y 1 (by omega) (by omega)).trans y2⟩
theorem Reads.lenWri {w : World} {B n : Nat} {A : Option Addr} {l : List (Int × Int)} (h : Reads w B 2 A n (recW l)) : l.length = n := by
  have := h.1
  rw [recW_len] at this
  omega
def WrNo (w : World) (n : Nat) (i : Value) (wr : World) : Prop := ∃ k : Nat, i = .int .i64 k ∧ k ≤ n ∧ Below w.heap.size w wr
set_option maxHeartbeats 1000000 in
theorem write_none (m : Value) (A : Option Addr) (n c : Nat) (l : List (Int × Int)) (w : World) (hr : Reads w w.heap.size 2 A n (recW l)) (hno : ∀ a, NoWord w m a) (hn : n ≤ 9223372036854775807) :
    Calls Tryd.prog 31 #[m, .slice A n c] w fun e w' => (∃ v, e = .returned v) ∧ Below w.heap.size w w' := by
  have PN := hide (fun a x w2 (hb : Below w.heap.size w w2) => put_f m a x w2 ((hno a).below hb))
  have HR := hide hr
  clear hr hno
  go_enter Tryd.func31, Tryd.ntmps31
  go_wp2_with fail
  go_loopw [8] (WrNo w n) (fun i _ => n - (intOf i).toNat)
  case atStart => exact ⟨0, rfl, by omega, Below.refl _ _⟩
  case round =>
    obtain ⟨k, rfl, hk, hb⟩ := hrel
    by_cases hlt : k < n
    · obtain ⟨a, rfl, hab, hkl, z0, z1⟩ := (HR.out.below hb).wri hlt
      have hs := hb.size
      have hkz : (k : Int) < (n : Int) := by omega
      generalize l[k].1 = q0 at *
      generalize l[k].2 = q1 at *
      go_wp2_with fail
      have B1 := hb.alloc hb.size (.cells #[.int .i64 q0, .int .u64 q1] 55)
      refine (PN.out _ _ _ B1).mono ?_
      rintro e w' ⟨⟨v, rfl⟩, rfl⟩
      go_wp2_with fail
      go_roundw
      case rel => exact ⟨k + 1, by go_num, by omega, B1⟩
      case measure => simp [intOf]; omega
    · obtain rfl : k = n := by omega
      go_wp2_with fail
      go_end0
      exact ⟨⟨_, rfl⟩, hb⟩
set_option maxHeartbeats 400000 in
theorem copy_nil (w : World) : Calls Tryd.prog 36 #[.pointer none] w fun e w' => e = .returned (.pointer none) ∧ Below w.heap.size w w' := by
  go_enter Tryd.func36, Tryd.ntmps36
  go_wp2_with fail
  go_ret
  exact ⟨rfl, Below.refl _ _⟩
end Go.Proofs.YtpkocgcagemnbaaDoor
