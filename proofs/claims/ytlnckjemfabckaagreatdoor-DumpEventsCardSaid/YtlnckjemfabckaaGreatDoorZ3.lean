/-
  memory.All; the example of chapter 9.
-/
import Derived.Test.YtlnckjemfabckaaGreatDoorZ2
import Derived.Deep.LoopGhost
import Derived.Maps.Own
import Derived.Maps.OwnOps
import Derived.Maps.Views
import Derived.WalkSpells
import Derived.Deep.QuietTactic
import Derived.BigQuiet
import Derived.Deep.RegionWith
import Derived.Deep.RegionHeld3
import Derived.Deep.DeepCutAuto
import Derived.Shelf.Abstract
namespace Go.Proofs.YtlnckjemfabckaaGreatDoor
open Go.RowKit
attribute [local go_sem] past_cell past_cell_add

/-- Accesses as cells. -/
def rec4 (l : List (Int × Int × Int × Int)) : List Value := l.flatMap fun r => [.int .i64 r.1, .int .i64 r.2.1, .int .u64 r.2.2.1, .int .u64 r.2.2.2]
theorem rec4_len (l : List (Int × Int × Int × Int)) : (rec4 l).length = l.length * 4 := by
  induction l with
  | nil => rfl
  | cons r l ih =>
    have : (rec4 (r :: l)) = .int .i64 r.1 :: .int .i64 r.2.1 :: .int .u64 r.2.2.1 :: .int .u64 r.2.2.2 :: rec4 l := rfl
    rw [this]
    simp only [List.length_cons, ih]
    omega
theorem rec4_get (l : List (Int × Int × Int × Int)) : ∀ (k : Nat) (h : k < l.length), (rec4 l)[k * 4]? = some (.int .i64 l[k].1) ∧ (rec4 l)[k * 4 + 1]? = some (.int .i64 l[k].2.1) ∧ (rec4 l)[k * 4 + 2]? = some (.int .u64 l[k].2.2.1) ∧ (rec4 l)[k * 4 + 3]? = some (.int .u64 l[k].2.2.2) := by
  induction l with
  | nil => intro k h; simp at h
  | cons r l ih =>
    intro k h
    cases k with
    | zero => simp [rec4]
    | succ k =>
      have := ih k (by simpa using h)
      have e1 : (k + 1) * 4 = k * 4 + 4 := by omega
      have e2 : (k + 1) * 4 + 1 = k * 4 + 1 + 4 := by omega
      have e3 : (k + 1) * 4 + 2 = k * 4 + 2 + 4 := by omega
      have e4 : (k + 1) * 4 + 3 = k * 4 + 3 + 4 := by omega
      simpa [rec4, e1, e2, e3, e4] using this
theorem Reads.ask {w : World} {B n k : Nat} {A : Option Addr} {l : List (Int × Int × Int × Int)} (h : Reads w B 4 A n (rec4 l)) (hk : k < n) :
    ∃ a, A = some a ∧ a.block < B ∧ ∃ hl : k < l.length, w.cell? (a.add (k * 4)) = some (.int .i64 l[k].1) ∧ w.cell? ⟨(a.add (k * 4)).block, (a.add (k * 4)).off + 1, none⟩ = some (.int .i64 l[k].2.1) ∧
      w.cell? ⟨(a.add (k * 4)).block, (a.add (k * 4)).off + 2, none⟩ = some (.int .u64 l[k].2.2.1) ∧ w.cell? ⟨(a.add (k * 4)).block, (a.add (k * 4)).off + 3, none⟩ = some (.int .u64 l[k].2.2.2) := by
  have hl : k < l.length := by
    have := h.1
    rw [rec4_len] at this
    omega
  obtain ⟨a, ha, hb, x, y⟩ := h.row hk
  obtain ⟨y0, y1, y2, y3⟩ := rec4_get l k hl
  exact ⟨a, ha, hb, hl, (x (by omega)).trans y0, (y 1 (by omega) (by omega)).trans y1, (y 2 (by omega) (by omega)).trans y2, (y 3 (by omega) (by omega)).trans y3⟩
theorem Reads.lenAsk {w : World} {B n : Nat} {A : Option Addr} {l : List (Int × Int × Int × Int)} (h : Reads w B 4 A n (rec4 l)) : l.length = n := by
  have := h.1
  rw [rec4_len] at this
  omega
theorem Reads.grownG {w w' : World} {B s n g : Nat} {A : Option Addr} {xs : List Value} (h : Reads w B s A n xs) (hg : w.grownBy w' (some g)) (hB : B ≤ w.heap.size) (hne : ∀ ad, A = some ad → ad.block ≠ g) : Reads w' B s A n xs := by
  refine ⟨h.1, fun hn => ?_⟩
  obtain ⟨ad, rfl, hb, hc⟩ := h.2 hn
  refine ⟨ad, rfl, hb, fun j u hu => ?_⟩
  rw [World.cell?_of_block (w := w) (hg.block _ (by rw [block_of_add]; omega) (by rw [block_of_add]; intro e; exact hne ad rfl (by injection e)))]
  exact hc j u hu

/-- What some accesses tell, and what they leave. -/
def mAll (ws : List Int) (l : List (Int × Int × Int × Int)) : Nat → List Int × List Int
  | 0 => ([], ws)
  | k + 1 => let s := mAll ws l k; let r := l.getD k (0, 0, 0, 0); let x := mDo s.2 r.1 r.2.1 r.2.2.1 r.2.2.2; (s.1 ++ [x.1], x.2)
theorem mAll_len (ws : List Int) (l : List (Int × Int × Int × Int)) : ∀ k, (mAll ws l k).1.length = k
  | 0 => rfl
  | k + 1 => by
    show ((mAll ws l k).1 ++ _).length = _
    rw [List.length_append, mAll_len ws l k]
    rfl
theorem own_ne_row {w : World} {base g s n : Nat} {e : TypeId} {v : Value} {xs : List Value} (h : w.ownsRow base e s v n xs) (hg : g < base) : v.ownBlock = none ∨ v.ownBlock ≠ some g := by
  cases hv : v.ownBlock with
  | none => exact .inl rfl
  | some k =>
    right
    have := (h.lt k hv).1
    intro e
    injection e with e
    omega
theorem own_ne_row' {w : World} {base g s n : Nat} {e : TypeId} {v : Value} {xs : List Value} (h : w.ownsRow base e s v n xs) (hg : g < base) : some g ≠ v.ownBlock := by
  rcases own_ne_row h hg with hv | hv
  · rw [hv]
    simp
  · exact fun e => hv e.symm
theorem grown_own {w w1 w2 : World} {base g s n : Nat} {e : TypeId} {v : Value} {xs : List Value} (h : w.grownBy w1 (some g)) (ho : w1.ownsRow base e s v n xs) (hb : w.heap.size ≤ base) (hg : w1.grownBy w2 v.ownBlock) : w.grownBy w2 (some g) :=
  ⟨hg.os.trans h.os, hg.tape.trans h.tape, hg.output.trans h.output, Nat.le_trans h.size hg.size, fun k hk hr => (hg.block k (Nat.lt_of_lt_of_le hk h.size) (own_ne_row' ho (by omega))).trans (h.block k hk hr)⟩
def AllIn (ws : List Int) (l : List (Int × Int × Int × Int)) (gm gw : Nat) (s t f c p : Int) (w : World) (v i : Value) (wr : World) : Prop :=
  ∃ (k : Nat) (A1 : Option Addr) (n1 c1 : Nat), i = .int .i64 k ∧ k ≤ l.length ∧ v = .slice A1 n1 c1 ∧ n1 = k ∧ wr.ownsRow w.heap.size 32 1 (.slice A1 n1 c1) n1 (ints .u64 (mAll ws l k).1) ∧ MemOk wr gm gw s t f c p (mAll ws l k).2 ∧ w.grownBy wr (some gw)
end Go.Proofs.YtlnckjemfabckaaGreatDoor

/-
  memory.Words, Write, Copy; the example of chapter 9.
-/
namespace Go.Proofs.YtlnckjemfabckaaGreatDoor
open Go.RowKit
attribute [local go_sem] past_cell past_cell_add

/-- Some words of a memory. -/
def cutW (ws : List Int) (a b : Int) : List Int := (ws.take (min b ws.length).toNat).drop (max a 0).toNat
theorem cutW_none {ws : List Int} {a b : Int} (h : min b ws.length ≤ max a 0) : cutW ws a b = [] := by
  unfold cutW
  apply List.eq_nil_of_length_eq_zero
  simp only [List.length_drop, List.length_take]
  omega
theorem reads_words {w : World} {gw : Nat} {ws : List Int} (h : Blk w gw 32 (ints .u64 ws).toArray) : Reads w w.heap.size 1 (some ⟨gw, 0, none⟩) ws.length (ints .u64 ws) := by
  have := Reads.blk h ws.length 1 (by simp [ints])
  exact this.more h.lt
theorem reads_cutw {w : World} {B N x y : Nat} {A : Option Addr} {l : List Int} (h : Reads w B 1 A N (ints .u64 l)) (hxy : x < y) (hy : y ≤ N) : Reads w B 1 (A.map (·.add x)) (y - x) (ints .u64 ((l.take y).drop x)) := by
  have hl := h.lenWord
  refine ⟨by rw [ints_len]; simp; omega, fun _ => ?_⟩
  obtain ⟨ad, rfl, hb, hc⟩ := h.2 (by omega)
  refine ⟨ad.add x, rfl, by rw [block_of_add]; exact hb, fun j u hu => ?_⟩
  rw [add_of_add]
  refine hc (x + j) u ?_
  unfold ints at *
  rw [List.map_drop, List.map_take, List.getElem?_drop, List.getElem?_take] at hu
  split at hu
  · exact hu
  · cases hu
/-- Writes as cells. -/
def recW (l : List (Int × Int)) : List Value := l.flatMap fun r => [.int .i64 r.1, .int .u64 r.2]
theorem recW_len (l : List (Int × Int)) : (recW l).length = l.length * 2 := by
  induction l with
  | nil => rfl
  | cons r l ih =>
    have : (recW (r :: l)) = .int .i64 r.1 :: .int .u64 r.2 :: recW l := rfl
    rw [this]
    simp only [List.length_cons, ih]
    omega
theorem recW_get (l : List (Int × Int)) : ∀ (k : Nat) (h : k < l.length), (recW l)[k * 2]? = some (.int .i64 l[k].1) ∧ (recW l)[k * 2 + 1]? = some (.int .u64 l[k].2) := by
  induction l with
  | nil => intro k h; simp at h
  | cons r l ih =>
    intro k h
    cases k with
    | zero => simp [recW]
    | succ k =>
      have := ih k (by simpa using h)
      have e1 : (k + 1) * 2 = k * 2 + 2 := by omega
      have e2 : (k + 1) * 2 + 1 = k * 2 + 1 + 2 := by omega
      simpa [recW, e1, e2] using this
theorem Reads.wri {w : World} {B n k : Nat} {A : Option Addr} {l : List (Int × Int)} (h : Reads w B 2 A n (recW l)) (hk : k < n) :
    ∃ a, A = some a ∧ a.block < B ∧ ∃ hl : k < l.length, w.cell? (a.add (k * 2)) = some (.int .i64 l[k].1) ∧ w.cell? ⟨(a.add (k * 2)).block, (a.add (k * 2)).off + 1, none⟩ = some (.int .u64 l[k].2) := by
  have hl : k < l.length := by
    have := h.1
    rw [recW_len] at this
    omega
  obtain ⟨a, ha, hb, x, y⟩ := h.row hk
  obtain ⟨y1, y2⟩ := recW_get l k hl
  exact ⟨a, ha, hb, hl, (x (by omega)).trans y1, (y 1 (by omega) (by omega)).trans y2⟩
theorem Reads.lenWri {w : World} {B n : Nat} {A : Option Addr} {l : List (Int × Int)} (h : Reads w B 2 A n (recW l)) : l.length = n := by
  have := h.1
  rw [recW_len] at this
  omega
def WrNo (w : World) (n : Nat) (i : Value) (wr : World) : Prop := ∃ k : Nat, i = .int .i64 k ∧ k ≤ n ∧ Below w.heap.size w wr
set_option maxHeartbeats 1000000 in
theorem write_none (m : Value) (A : Option Addr) (n c : Nat) (l : List (Int × Int)) (w : World) (hr : Reads w w.heap.size 2 A n (recW l)) (hno : ∀ a, NoWord w m a) (hn : n ≤ 9223372036854775807) :
    Calls Tryz.prog 9 #[m, .slice A n c] w fun e w' => (∃ v, e = .returned v) ∧ Below w.heap.size w w' := by
  have PN := hide (fun a x w2 (hb : Below w.heap.size w w2) => put_f m a x w2 ((hno a).below hb))
  have HR := hide hr
  clear hr hno
  go_enter Tryz.func9, Tryz.ntmps9
  go_wp2_with fail
  go_loopw [8] (WrNo w n) (fun i _ => n - (intOf i).toNat)
  case atStart => exact ⟨0, rfl, by omega, Below.refl _ _⟩
  case round =>
    obtain ⟨k, rfl, hk, hb⟩ := hrel
    by_cases hlt : k < n
    · obtain ⟨a, rfl, hab, hkl, z0, z1⟩ := (HR.out.below hb).wri hlt
      have hs := hb.size
      have hkz : (k : Int) < (n : Int) := by omega
      generalize l[k].1 = q0 at *
      generalize l[k].2 = q1 at *
      go_wp2_with fail
      have B1 := hb.alloc hb.size (.cells #[.int .i64 q0, .int .u64 q1] 35)
      refine (PN.out _ _ _ B1).mono ?_
      rintro e w' ⟨⟨v, rfl⟩, rfl⟩
      go_wp2_with fail
      go_roundw
      case rel => exact ⟨k + 1, by go_num, by omega, B1⟩
      case measure => simp [intOf]; omega
    · obtain rfl : k = n := by omega
      go_wp2_with fail
      go_end0
      exact ⟨⟨_, rfl⟩, hb⟩
end Go.Proofs.YtlnckjemfabckaaGreatDoor

/-
  memory.put, Word, Write of a memory that stands.
-/
namespace Go.Proofs.YtlnckjemfabckaaGreatDoor
open Go.RowKit
attribute [local go_sem] past_cell past_cell_add

theorem keepG {w w' : World} {g : Nat} (hg : w.grownBy w' (some g)) {p : Addr} {v : Value} (h : w.cell? p = some v) (hne : p.block ≠ g) : w'.cell? p = some v :=
  (World.cell?_of_block (hg.block _ (World.block_lt_of_cell? w p h) (fun e => hne (by injection e)))).trans h
theorem MemOk.no {gm gw : Nat} {s t f l p a : Int} {ws : List Int} {w : World} (hm : MemOk w gm gw s t f l p ws) (h : ¬ (0 ≤ a ∧ a < ws.length)) : NoWord w (.pointer (some ⟨gm, 0, none⟩)) a :=
  .inr ⟨gm, _, _, rfl, hm.words, by omega⟩
theorem mput_any (gm gw : Nat) (s t f l p a x : Int) (ws : List Int) (w : World) (hm : MemOk w gm gw s t f l p ws) :
    Calls Tryz.prog 38 #[.pointer (some ⟨gm, 0, none⟩), .int .i64 a, .int .u64 x] w fun e w' => (∃ v, e = .returned v) ∧ MemOk w' gm gw s t f l p (wPut ws a x) ∧ w.grownBy w' (some gw) := by
  by_cases hin : 0 ≤ a ∧ a < ws.length
  · obtain ⟨j, rfl⟩ := Int.eq_ofNat_of_zero_le hin.1
    have hj : j < ws.length := by omega
    rw [wPut_at hj]
    exact (put_t gm gw ws.length j x (ws.getD j 0) w hm.words hj (hm.at_ hj) (hm.2.1.frozen j)).mono fun e w' ⟨he, hw⟩ => by
      subst hw
      exact ⟨he, hm.set_ j x, grown_set w gw j _⟩
  · unfold wPut
    rw [if_neg hin]
    exact (put_f _ a x w (hm.no hin)).mono fun e w' ⟨he, hw⟩ => by
      subst hw
      exact ⟨he, hm, World.grownBy.refl _ _⟩
theorem word_any (gm gw : Nat) (s t f l p a : Int) (ws : List Int) (w : World) (hm : MemOk w gm gw s t f l p ws) :
    Calls Tryz.prog 41 #[.pointer (some ⟨gm, 0, none⟩), .int .i64 a] w fun e w' => e = .returned (.int .u64 (wGet ws a)) ∧ w = w' := by
  by_cases hin : 0 ≤ a ∧ a < ws.length
  · obtain ⟨j, rfl⟩ := Int.eq_ofNat_of_zero_le hin.1
    have hj : j < ws.length := by omega
    rw [wGet_at hj]
    exact word_t gm gw ws.length j _ w hm.words hj (hm.at_ hj)
  · unfold wGet
    rw [if_neg hin]
    exact word_f _ a w (hm.no hin)

/-- What some writes leave. -/
def mWri (ws : List Int) (l : List (Int × Int)) : Nat → List Int
  | 0 => ws
  | k + 1 => wPut (mWri ws l k) (l.getD k (0, 0)).1 (l.getD k (0, 0)).2
theorem mWri_len (ws : List Int) (l : List (Int × Int)) : ∀ k, (mWri ws l k).length = ws.length
  | 0 => rfl
  | k + 1 => by
    show (wPut _ _ _).length = _
    rw [wPut_len, mWri_len ws l k]
theorem Reads.grownH {w w' : World} {B s n g : Nat} {A : Option Addr} {xs : List Value} (h : Reads w B s A n xs) (hg : w.grownBy w' (some g)) (hB : B ≤ w.heap.size) (hne : 0 < n → ∀ ad, A = some ad → ad.block ≠ g) : Reads w' B s A n xs := by
  refine ⟨h.1, fun hn => ?_⟩
  obtain ⟨ad, rfl, hb, hc⟩ := h.2 hn
  refine ⟨ad, rfl, hb, fun j u hu => ?_⟩
  rw [World.cell?_of_block (w := w) (hg.block _ (by rw [block_of_add]; omega) (by rw [block_of_add]; intro e; exact hne hn ad rfl (by injection e)))]
  exact hc j u hu
def WrIn (ws : List Int) (l : List (Int × Int)) (n : Nat) (gm gw : Nat) (s t f c p : Int) (w : World) (i : Value) (wr : World) : Prop := ∃ k : Nat, i = .int .i64 k ∧ k ≤ n ∧ MemOk wr gm gw s t f c p (mWri ws l k) ∧ w.grownBy wr (some gw)
set_option maxHeartbeats 1000000 in
theorem write_any (gm gw : Nat) (s t f c0 p : Int) (A : Option Addr) (n c : Nat) (ws : List Int) (l : List (Int × Int)) (w : World) (hm : MemOk w gm gw s t f c0 p ws) (hr : Reads w w.heap.size 2 A n (recW l)) (hne : 0 < n → ∀ ad, A = some ad → ad.block ≠ gw) (hn : n ≤ 9223372036854775807) :
    Calls Tryz.prog 9 #[.pointer (some ⟨gm, 0, none⟩), .slice A n c] w fun e w' => (∃ v, e = .returned v) ∧ MemOk w' gm gw s t f c0 p (mWri ws l n) ∧ w.grownBy w' (some gw) := by
  have HM := hide hm
  have HR := hide hr
  have HNE := hide hne
  have HGW := hide (show gw < w.heap.size from hm.2.1.lt)
  clear hm hr hne
  go_enter Tryz.func9, Tryz.ntmps9
  go_wp2_with fail
  go_loopw [8] (WrIn ws l n gm gw s t f c0 p w) (fun i _ => n - (intOf i).toNat)
  case atStart => exact ⟨0, rfl, by omega, HM.out, World.grownBy.refl _ _⟩
  case round =>
    obtain ⟨k, rfl, hk, hmem, hg⟩ := hrel
    have HMem := hide hmem
    have HG := hide hg
    clear hmem hg
    by_cases hlt : k < n
    · obtain ⟨a, rfl, hab, hkl, z0, z1⟩ := (HR.out.grownH HG.out (Nat.le_refl _) HNE.out).wri hlt
      have hkz : (k : Int) < (n : Int) := by omega
      have hs := hide (show mWri ws l (k + 1) = wPut (mWri ws l k) l[k].1 l[k].2 by
        show wPut (mWri ws l k) (l.getD k (0, 0)).1 (l.getD k (0, 0)).2 = _
        rw [show l.getD k (0, 0) = l[k] by simp [List.getD, hkl]])
      have P := hide (fun w2 hm => mput_any gm gw s t f c0 p l[k].1 l[k].2 (mWri ws l k) w2 hm)
      generalize wPut (mWri ws l k) l[k].1 l[k].2 = ws2 at *
      generalize l[k].1 = q0 at *
      generalize l[k].2 = q1 at *
      go_wp2_with fail
      have B1 := (Below.refl wr.heap.size wr).alloc (Nat.le_refl _) (.cells #[.int .i64 q0, .int .u64 q1] 35)
      refine (P.out _ (HMem.out.below B1)).mono ?_
      rintro e w' ⟨⟨v, rfl⟩, hm2, hg2⟩
      go_wp2_with fail
      go_roundw
      case rel => exact ⟨k + 1, by go_num, by omega, by rw [hs.out]; exact hm2, grown_trans HG.out (grown_trans (grown_below B1 _) hg2)⟩
      case measure => simp [intOf]; omega
    · obtain rfl : k = n := by omega
      go_wp2_with fail
      go_end0
      exact ⟨⟨_, rfl⟩, HMem.out, HG.out⟩

/-- One word turned to what the other memory shows there: an access tells the same. -/
theorem one_law (ws zs : List Int) (hl : ws.length = zs.length) (k a o n : Int) :
    (mDo (wPut zs a (wGet ws a)) k a o n).1 = (mDo ws k a o n).1 ∧ wGet (mDo (wPut zs a (wGet ws a)) k a o n).2 a = wGet (mDo ws k a o n).2 a ∧ ∀ j : Nat, (j : Int) ≠ a → (mDo ws k a o n).2.getD j 0 = ws.getD j 0 := by
  by_cases hin : 0 ≤ a ∧ a < ws.length
  · obtain ⟨j, rfl⟩ := Int.eq_ofNat_of_zero_le hin.1
    have hj : j < ws.length := by omega
    have hz : j < zs.length := by omega
    have g1 : wGet (wPut zs j (wGet ws j)) j = wGet ws j := by
      rw [wPut_at hz, wGet_at (by simpa using hz)]
      simp [List.getD, hz]
    have pu : ∀ (ys : List Int) (x : Int), j < ys.length → wGet (wPut ys j x) j = x := fun ys x h => by
      rw [wPut_at h, wGet_at (by simpa using h)]
      simp [List.getD, h]
    have ot : ∀ i : Nat, (i : Int) ≠ (j : Int) → ∀ x, (wPut ws j x).getD i 0 = ws.getD i 0 := fun i hi x => by
      rw [wPut_at hj]
      simp only [List.getD, List.getElem?_set]
      rw [if_neg (by omega)]
    unfold mDo
    rw [g1, wPut_len, ← hl]
    split
    · exact ⟨rfl, g1, fun i _ => rfl⟩
    · split
      · exact ⟨rfl, by rw [pu _ _ (by rw [wPut_len]; exact hz), pu _ _ hj], fun i hi => ot i hi _⟩
      · split
        · exact ⟨rfl, by rw [pu _ _ (by rw [wPut_len]; exact hz), pu _ _ hj], fun i hi => ot i hi _⟩
        · exact ⟨rfl, g1, fun i _ => rfl⟩
  · have out : ∀ ys : List Int, ys.length = ws.length → mDo ys k a o n = (0, ys) := fun ys hy => by
      unfold mDo wGet wPut
      rw [hy, if_neg hin, if_neg hin]
      split
      · rfl
      · split
        · rfl
        · rw [if_neg (fun h => hin ⟨h.2.1, h.2.2.1⟩)]
    rw [out _ (by rw [wPut_len, hl]), out ws rfl]
    refine ⟨rfl, ?_, fun _ _ => rfl⟩
    unfold wGet
    rw [if_neg (by rw [wPut_len, ← hl]; exact hin), if_neg hin]
end Go.Proofs.YtlnckjemfabckaaGreatDoor

/-
  Shapes: Pack, Inner, Entries; the Go function LayoutShapes.
-/
namespace Go.Proofs.YtlnckjemfabckaaGreatDoor
open Go.RowKit

def pkN (n : Int) : Int := if n < 0 ∨ 255 < n then 0 else n
def pk (inner : Bool) (n : Int) : Int := if inner = true then pkN n * 2 + 1 else pkN n * 2
theorem pkN_bd (n : Int) : 0 ≤ pkN n ∧ pkN n ≤ 255 := by unfold pkN; split <;> omega
def innB (x : Int) : Bool := x % 2 == 1
def ents (x fan : Int) : Int := if fan < 0 then 0 else if fan < x / 2 % 256 then fan else x / 2 % 256

theorem or_one (m : Int) (h : 0 ≤ m) (h2 : m ≤ 255) : bits .or .u64 (m * 2) 1 = m * 2 + 1 := by
  obtain ⟨k, rfl⟩ := Int.eq_ofNat_of_zero_le h
  have h4 := Nat.two_pow_add_eq_or_of_lt (i := 1) (b := 1) (by decide) k
  have e : ((k : Int) * 2) = ((k * 2 : Nat) : Int) := by omega
  rw [e, show (1 : Int) = ((1 : Nat) : Int) from rfl, u64_or_nat _ _ (by omega) (by omega)]
  rw [show k * 2 = 2 ^ 1 * k by omega, ← h4]
  omega

set_option maxHeartbeats 1000000 in
theorem pack_any (inner : Bool) (n : Int) (w : World) (_ : I64 n) :
    Calls Tryz.prog 24 #[.bool inner, .int .i64 n] w fun e w' => e = .returned (.int .u64 (pk inner n)) ∧ w = w' := by
  have hb := pkN_bd n
  have FP := hide (fun w => put_any 0 1 8 (pkN n) w ⟨by omega, by omega⟩ ⟨by omega, by omega⟩ ⟨by omega, by omega⟩ ⟨by omega, by omega⟩)
  have e : fput 0 1 8 (pkN n) = pkN n * 2 := by
    have h := fput_at 0 (pkN n) 1 8 (by omega)
    simp at h
    rw [h]
    omega
  rw [e] at FP
  have O := or_one (pkN n) hb.1 hb.2
  have E := hide (show pk inner n = if inner = true then pkN n * 2 + 1 else pkN n * 2 from rfl)
  by_cases c : n < 0 ∨ 255 < n
  · have W1 := hide (fun w => within_f n 256 w (by omega))
    rw [show pkN n = 0 from if_pos c] at FP O E
    clear c e hb
    cases inner
    · go_enter Tryz.func24, Tryz.ntmps24
      go_wp2_with fail
      refine (W1.out _).mono ?_
      rintro e w' ⟨rfl, rfl⟩
      go_wp2_with fail
      refine (FP.out _).mono ?_
      rintro e w' ⟨rfl, rfl⟩
      go_wp2_with fail
      go_ret
      exact ⟨by rw [E.out]; rfl, rfl⟩
    · go_enter Tryz.func24, Tryz.ntmps24
      go_wp2_with fail
      refine (W1.out _).mono ?_
      rintro e w' ⟨rfl, rfl⟩
      go_wp2_with fail
      refine (FP.out _).mono ?_
      rintro e w' ⟨rfl, rfl⟩
      go_wp2_with fail
      go_ret
      exact ⟨by rw [E.out]; rfl, rfl⟩
  · have W1 := hide (fun w => within_t n 256 w (by omega) (by omega))
    rw [show pkN n = n from if_neg c] at FP O E
    have c1 : 0 ≤ n := by omega
    have c2 : n ≤ 255 := by omega
    have OH := hide O
    clear c e hb O
    cases inner
    · go_enter Tryz.func24, Tryz.ntmps24
      go_wp2_with fail
      refine (W1.out _).mono ?_
      rintro e w' ⟨rfl, rfl⟩
      go_wp2_with fail
      refine (FP.out _).mono ?_
      rintro e w' ⟨rfl, rfl⟩
      go_wp2_with fail
      go_ret
      exact ⟨by rw [E.out]; rfl, rfl⟩
    · go_enter Tryz.func24, Tryz.ntmps24
      go_wp2_with fail
      refine (W1.out _).mono ?_
      rintro e w' ⟨rfl, rfl⟩
      go_wp2_with fail
      refine (FP.out _).mono ?_
      rintro e w' ⟨rfl, rfl⟩
      go_wp2_with fail
      go_ret
      exact ⟨by rw [E.out, ← OH.out]; rfl, rfl⟩
set_option maxHeartbeats 400000 in
theorem inner_any (x : Int) (w : World) (hx : W64 x) :
    Calls Tryz.prog 79 #[.int .u64 x] w fun e w' => e = .returned (.bool (innB x)) ∧ w = w' := by
  have BT := hide (fun w => bit_any x 0 w hx ⟨by omega, by omega⟩)
  have e : fget x 0 1 = x % 2 := by
    have h := fget_at x 0 1 (by omega)
    simpa using h
  rw [e, show (x % 2 == 1) = innB x from rfl] at BT
  generalize innB x = r at *
  clear e
  go_enter Tryz.func79, Tryz.ntmps79
  go_wp2_with fail
  refine (BT.out _).mono ?_
  rintro e w' ⟨rfl, rfl⟩
  go_wp2_with fail
  go_ret
  exact ⟨rfl, rfl⟩
set_option maxHeartbeats 400000 in
theorem rinner_any (x : Int) (w : World) (hx : W64 x) :
    Calls Tryz.prog 91 #[.int .u64 x] w fun e w' => e = .returned (.bool (innB x)) ∧ w = w' := by
  obtain ⟨h0, h1⟩ := hx
  have t1 : x.tmod 2 = x % 2 := Int.tmod_eq_emod_of_nonneg h0
  go_enter Tryz.func91, Tryz.ntmps91
  go_wp2_with fail
  go_ret
  exact ⟨rfl, rfl⟩
set_option maxHeartbeats 400000 in
theorem entries_any (x fan : Int) (w : World) (hx : W64 x) (hf : I64 fan) :
    Calls Tryz.prog 77 #[.int .u64 x, .int .i64 fan] w fun e w' => e = .returned (.int .i64 (ents x fan)) ∧ w = w' := by
  have G := hide (fun w => get_any x 1 8 w hx ⟨by omega, by omega⟩ ⟨by omega, by omega⟩)
  have e : fget x 1 8 = x / 2 % 256 := by
    have h := fget_at x 1 8 (by omega)
    simpa using h
  rw [e] at G
  have E := hide (show ents x fan = if fan < 0 then 0 else if fan < x / 2 % 256 then fan else x / 2 % 256 from rfl)
  have b0 : 0 ≤ x / 2 % 256 := by omega
  have b1 : x / 2 % 256 ≤ 255 := by omega
  clear e
  generalize ents x fan = R at *
  generalize x / 2 % 256 = m at *
  obtain ⟨h1, h2⟩ := hf
  by_cases c1 : fan < 0
  · have E2 := hide (E.out.trans (if_pos c1))
    have c2 : ¬ m ≤ fan := by omega
    have c3 : min m fan = fan := by omega
    have c4 : max 0 fan = 0 := by omega
    go_enter Tryz.func77, Tryz.ntmps77
    go_wp2_with fail
    refine (G.out _).mono ?_
    rintro e w' ⟨rfl, rfl⟩
    go_wp2_with fail
    go_ret
    exact ⟨by rw [E2.out]; rfl, rfl⟩
  by_cases c2 : fan < m
  · have E2 := hide (E.out.trans ((if_neg c1).trans (if_pos c2)))
    have c3 : min m fan = fan := by omega
    have c4 : max 0 fan = fan := by omega
    go_enter Tryz.func77, Tryz.ntmps77
    go_wp2_with fail
    refine (G.out _).mono ?_
    rintro e w' ⟨rfl, rfl⟩
    go_wp2_with fail
    go_ret
    exact ⟨by rw [E2.out]; rfl, rfl⟩
  · have E2 := hide (E.out.trans ((if_neg c1).trans (if_neg c2)))
    have c3 : min m fan = m := by omega
    have c4 : max 0 m = m := by omega
    have c5 : m ≤ fan := by omega
    go_enter Tryz.func77, Tryz.ntmps77
    go_wp2_with fail
    refine (G.out _).mono ?_
    rintro e w' ⟨rfl, rfl⟩
    go_wp2_with fail
    go_ret
    exact ⟨by rw [E2.out]; rfl, rfl⟩
set_option maxHeartbeats 400000 in
theorem rentries_any (x fan : Int) (w : World) (hx : W64 x) (_ : I64 fan) :
    Calls Tryz.prog 90 #[.int .u64 x, .int .i64 fan] w fun e w' => e = .returned (.int .i64 (ents x fan)) ∧ w = w' := by
  obtain ⟨x0, x1⟩ := hx
  have t1 : x.tdiv 2 = x / 2 := Int.tdiv_eq_ediv_of_nonneg x0
  have t2 : (x / 2).tmod 256 = x / 2 % 256 := Int.tmod_eq_emod_of_nonneg (by omega)
  have E := hide (show ents x fan = if fan < 0 then 0 else if fan < x / 2 % 256 then fan else x / 2 % 256 from rfl)
  have b0 : 0 ≤ x / 2 % 256 := by omega
  have b1 : x / 2 % 256 ≤ 255 := by omega
  have b2 : 0 ≤ x / 2 := by omega
  have b3 : x / 2 ≤ 18446744073709551615 := by omega
  generalize ents x fan = R at *
  generalize x / 2 % 256 = m at *
  generalize x / 2 = y at *
  by_cases c1 : fan < 0
  · have E2 := hide (E.out.trans (if_pos c1))
    go_enter Tryz.func90, Tryz.ntmps90
    go_wp2_with fail
    go_ret
    exact ⟨by rw [E2.out]; rfl, rfl⟩
  by_cases c2 : fan < m
  · have E2 := hide (E.out.trans ((if_neg c1).trans (if_pos c2)))
    go_enter Tryz.func90, Tryz.ntmps90
    go_wp2_with fail
    go_ret
    exact ⟨by rw [E2.out]; rfl, rfl⟩
  · have E2 := hide (E.out.trans ((if_neg c1).trans (if_neg c2)))
    go_enter Tryz.func90, Tryz.ntmps90
    go_wp2_with fail
    go_ret
    exact ⟨by rw [E2.out]; rfl, rfl⟩

end Go.Proofs.YtlnckjemfabckaaGreatDoor

/-
  Package hword and its reference.
-/
namespace Go.Proofs.YtlnckjemfabckaaGreatDoor
open Go.RowKit

def hslot (slot : Int) : Int := if slot < 0 ∨ 65535 < slot then 0 else slot
def hmake (tag slot : Int) : Int := tag % 281474976710656 * 65536 + hslot slot
theorem hslot_bound (slot : Int) : 0 ≤ hslot slot ∧ hslot slot ≤ 65535 := by unfold hslot; split <;> omega
theorem hmake_bound (tag slot : Int) : W64 (hmake tag slot) := by
  have := hslot_bound slot
  unfold hmake
  exact ⟨by omega, by omega⟩
theorem hmake_put (tag slot : Int) : fput (hslot slot) 16 48 tag = hmake tag slot := by
  have h := fput_at (hslot slot) tag 16 48 (by omega)
  have b := hslot_bound slot
  unfold hmake
  generalize hslot slot = s at *
  simp at h
  rw [h]
  omega
theorem hget_tag {w : Int} (h : W64 w) : fget w 16 48 = w / 65536 := by
  have h1 := fget_at w 16 48 (by omega)
  obtain ⟨h2, h3⟩ := h
  simp at h1
  rw [h1]
  omega
theorem hget_slot (w : Int) : fget w 0 16 = w % 65536 := by
  have h1 := fget_at w 0 16 (by omega)
  simpa using h1

set_option maxHeartbeats 400000 in
theorem hmake_any (tag slot : Int) (w : World) (ht : W64 tag) (hs : I64 slot) :
    Calls Tryz.prog 31 #[.int .u64 tag, .int .i64 slot] w fun r w' => r = .returned (.int .u64 (hmake tag slot)) ∧ w = w' := by
  have b := hslot_bound slot
  have P := hide (put_any (hslot slot) 16 48 tag w ⟨b.1, by omega⟩ ⟨by omega, by omega⟩ ⟨by omega, by omega⟩ ht)
  rw [hmake_put] at P
  obtain ⟨h0, h1⟩ := hs
  by_cases c0 : slot < 0
  · rw [show hslot slot = 0 from if_pos (.inl c0)] at P
    go_enter Tryz.func31, Tryz.ntmps31
    go_wp2_with fail
    refine P.out.mono ?_
    rintro e w' ⟨rfl, rfl⟩
    go_wp2_with fail
    go_ret
    exact ⟨rfl, rfl⟩
  by_cases c1 : 65535 < slot
  · rw [show hslot slot = 0 from if_pos (.inr c1)] at P
    go_enter Tryz.func31, Tryz.ntmps31
    go_wp2_with fail
    refine P.out.mono ?_
    rintro e w' ⟨rfl, rfl⟩
    go_wp2_with fail
    go_ret
    exact ⟨rfl, rfl⟩
  rw [show hslot slot = slot from if_neg (by omega)] at P
  have c2 : 0 ≤ slot := by omega
  have c3 : slot ≤ 65535 := by omega
  clear c0 c1 b
  go_enter Tryz.func31, Tryz.ntmps31
  go_wp2_with fail
  refine P.out.mono ?_
  rintro e w' ⟨rfl, rfl⟩
  go_wp2_with fail
  go_ret
  exact ⟨rfl, rfl⟩

def hturn (x slot : Int) : Int := hmake (x / 65536 + 1) slot
theorem hturn_bound (x slot : Int) : W64 (hturn x slot) := hmake_bound _ _
end Go.Proofs.YtlnckjemfabckaaGreatDoor

/-
  arena.New: the memory of a machine that begins holds the document's words.
-/
namespace Go.Proofs.YtlnckjemfabckaaGreatDoor
open Go.RowKit

/-- The slots above k are laid. -/
def dOR (s f k o r : Int) : Int :=
  if o = 0 ∧ r = 1 then 3 else if o = 0 ∧ r = 3 + f then 65537 else if o = 1 ∧ r = 0 then 1099511627776
  else if 2 ≤ o ∧ k < o ∧ o ≤ s ∧ r = 0 then 2 else if 2 ≤ o ∧ k < o ∧ o < s ∧ r = 2 then o + 1 else 0
def dK (s t f k j : Int) : Int := dOR s f k (oOf t f j) (rOf t f j)
def BegD (s t f k : Int) (ws : List Int) : Prop := ∀ j : Nat, j < ws.length → ws.getD j 0 = dK s t f k j
theorem dK_top (s t f j : Int) : dK s t f s j = bK s t f 2 j := by
  unfold dK bK dOR bOR
  generalize oOf t f j = o
  generalize rOf t f j = r
  repeat' split
  all_goals first | rfl | omega
theorem dK_low (s t f j : Int) : dK s t f 1 j = bK s t f (s + 1) j := by
  unfold dK bK dOR bOR
  generalize oOf t f j = o
  generalize rOf t f j = r
  repeat' split
  all_goals first | rfl | omega
theorem dK_step {s t f k j : Int} (hf : 4 ≤ f) (hk : 2 ≤ k) (hks : k ≤ s) : dK s t f (k - 1) j = if j = nB t f k + 2 then (if k < s then k + 1 else 0) else if j = nB t f k then 2 else dK s t f k j := by
  have h1 := at_or (t := t) (f := f) (j := j) (k := k) (c := 0) (by omega) (by omega)
  have h2 := at_or (t := t) (f := f) (j := j) (k := k) (c := 2) (by omega) (by omega)
  rw [Int.add_zero] at h1
  unfold dK dOR
  simp only [h1, h2]
  generalize oOf t f j = o
  generalize rOf t f j = r
  repeat' split
  all_goals first | rfl | omega
theorem wPut_set {ws : List Int} {p : Nat} (h : p < ws.length) (x : Int) : wPut ws p x = ws.set p x := by
  unfold wPut
  rw [if_pos (by omega)]
  rfl
theorem begD_step {s t f k : Int} {ws : List Int} {q : Nat} (hf : 4 ≤ f) (hk : 2 ≤ k) (hks : k ≤ s) (hq : nB t f k = q) (hl : q + 2 < ws.length) (h : BegD s t f k ws) : BegD s t f (k - 1) (wPut (wPut ws q 2) ((q + 2 : Nat) : Int) (if k < s then k + 1 else 0)) := by
  rw [wPut_set (ws := ws) (p := q) (by omega), wPut_set (ws := ws.set q 2) (p := q + 2) (by rw [List.length_set]; exact hl)]
  intro j hj
  rw [List.length_set, List.length_set] at hj
  rw [getD_set _ _ _ _ (by rw [List.length_set]; exact hl), getD_set _ _ _ _ (by omega), dK_step hf hk hks, h j hj, hq]
  have e1 : (j = q + 2) ↔ (j : Int) = (q : Int) + 2 := by omega
  have e2 : (j = q) ↔ (j : Int) = (q : Int) := by omega
  simp only [e1, e2]
theorem begD_end {s t f : Int} {ws : List Int} (hN : ws.length = (laySize s t f).toNat) (h2 : 2 < ws.length) (h : BegD s t f 1 ws) : wPut ws 2 (if 2 ≤ s then 2 else 0) = begL s t f := by
  rw [show (2 : Int) = ((2 : Nat) : Int) from rfl, wPut_set h2]
  refine begL_of (by rw [List.length_set]; exact hN) fun j hj => ?_
  rw [List.length_set] at hj
  rw [getD_set _ _ _ _ h2, h j hj, dK_low]
  unfold begAt
  by_cases hj2 : j = 2
  · rw [if_pos hj2, if_pos (show (j : Int) = 2 by omega)]
    rfl
  · rw [if_neg hj2, if_neg (by omega)]
theorem mem5 {w : World} {gm gw : Nat} {s t f l p : Int} {ws : List Int} (h : MemOk w gm gw s t f l p ws) : w.cell? ⟨gm, 0, none⟩ = some (.int .i64 s) ∧ w.cell? ⟨gm, 1, none⟩ = some (.int .i64 t) ∧ w.cell? ⟨gm, 2, none⟩ = some (.int .i64 f) ∧ w.cell? ⟨gm, 3, none⟩ = some (.int .i64 l) ∧ w.cell? ⟨gm, 4, none⟩ = some (.int .i64 p) :=
  ⟨h.1.cell 0, h.1.cell 1, h.1.cell 2, h.1.cell 3, h.1.cell 4⟩
def AnIn (gm gw gc N : Nat) (s t f l p : Int) (w : World) (fi i : Value) (wr : World) : Prop :=
  ∃ (k fr : Int) (ws : List Int), i = .int .i64 k ∧ fi = .int .i64 fr ∧ 1 ≤ k ∧ k ≤ s ∧ fr = (if k < s then k + 1 else 0) ∧ MemOk wr gm gw s t f l p ws ∧ ws.length = N ∧ BegD s t f k ws ∧ Blk wr gc 23 #[.int .i64 s, .int .i64 t, .int .i64 f, .int .i64 l, .int .i64 p] ∧ Below w.heap.size w wr
theorem MemOk.drew {w : World} {gm gw : Nat} {s t f l p : Int} {ws : List Int} (h : MemOk w gm gw s t f l p ws) : MemOk w.drew gm gw s t f l p ws := ⟨h.1.drew, Blk.drew h.2.1, h.2.2⟩
set_option maxRecDepth 100000 in
set_option maxHeartbeats 4000000 in
theorem anew10_yes (s t f l p : Int) (N : Nat) (w : World) (hT : Tab w) (hc : cfgOk s t f l p = true) (hN : laySize s t f = N) :
    Calls Tryz.prog 7 #[.agg #[.int .i64 s, .int .i64 t, .int .i64 f, .int .i64 l, .int .i64 p]] w fun e w' => (∃ gm gw, e = .returned (.pointer (some ⟨gm, 0, none⟩)) ∧ MemOk w' gm gw s t f l p (begL s t f) ∧ w.heap.size ≤ gm ∧ w.heap.size ≤ gw) ∧ Below w.heap.size w w' := by
  have hb := cfgOk_iff.1 hc
  have hs : 1 ≤ s ∧ s ≤ 1000 := by omega
  have ht : 1 ≤ t ∧ t ≤ 64 := by omega
  have hf : 4 ≤ f ∧ f ≤ 64 := by omega
  have hsp := size_pos hs ht hf
  have b0 := nB_bd hs ht hf (sl := 0) (by omega)
  have b1 := nB_bd hs ht hf (sl := 1) (by omega)
  obtain ⟨p1, hp1⟩ : ∃ p1 : Nat, nB t f 0 + 1 = p1 := Int.eq_ofNat_of_zero_le (by omega)
  obtain ⟨p2, hp2⟩ : ∃ p2 : Nat, nB t f 0 + 3 + f = p2 := Int.eq_ofNat_of_zero_le (by omega)
  obtain ⟨p3, hp3⟩ : ∃ p3 : Nat, nB t f 1 = p3 := Int.eq_ofNat_of_zero_le (by omega)
  have MN := hide (fun w2 hb => mnew_yes s t f l p N w2 (hT.below hb) hc hN)
  have C1 := hide (fun w2 => lshp_any s t f l p 0 w2 hs ht hf)
  have C2 := hide (fun w2 => pack_any true 1 w2 ⟨by omega, by omega⟩)
  have C3 := hide (fun w2 => lval_any s t f l p 0 0 w2 hs ht hf)
  have C4 := hide (fun w2 => hnmake_any 1 1 w2 ⟨by omega, by omega⟩ ⟨by omega, by omega⟩)
  have C5 := hide (fun w2 => lver_any s t f l p 1 w2 hs ht hf)
  have C6 := hide (fun w2 => vmake_any 1 0 false false w2 ⟨by omega, by omega⟩ ⟨by omega, by omega⟩)
  rw [atpB_7 (by omega), hp1] at C1
  rw [show pk true 1 = 3 by rfl] at C2
  rw [atpB_10 (by omega) (by omega), show nB t f 0 + 3 + f + 0 = nB t f 0 + 3 + f by omega, hp2] at C3
  rw [show hmk 1 1 = 65537 by rfl] at C4
  rw [atpB_6 (by omega), hp3] at C5
  rw [show vpack 1 0 false false = 1099511627776 by rfl] at C6
  have CV := hide (fun (k : Int) (h1 : 2 ≤ k) (h2 : k ≤ s) (q : Nat) (hq : nB t f k = q) w2 => by have h := lver_any s t f l p k w2 hs ht hf; rw [atpB_6 (by omega), hq] at h; exact h)
  have CK := hide (fun (k : Int) (h1 : 2 ≤ k) (h2 : k ≤ s) (q : Nat) (hq : nB t f k = q) w2 => by have h := llnk_any s t f l p k w2 hs ht hf; rw [atpB_8 (by omega), hq] at h; exact h)
  have C7 := hide (fun w2 => vmake_any 0 0 true false w2 ⟨by omega, by omega⟩ ⟨by omega, by omega⟩)
  rw [show vpack 0 0 true false = 2 by rfl] at C7
  have C8 := hide (fun w2 => at_any s t f l p 3 0 0 w2 hs ht hf)
  rw [atp_first (by omega), show (3 : Int) - 1 = 2 by rfl] at C8
  have BG := hide (begK_zs s t f N p1 p2 p3 hp1.symm hp2.symm hp3.symm (by omega) (by omega))
  have HP := hide (show p1 < N ∧ p2 < N ∧ p3 < N by omega)
  have HNN := hide hN
  have HB := hide hb
  have HT := hide hT
  clear hp1 hp2 hp3 hN hb hc b0 b1 hsp hT
  have B0 := (Below.refl w.heap.size w).alloc (Nat.le_refl _) (.cells #[.int .i64 s, .int .i64 t, .int .i64 f, .int .i64 l, .int .i64 p] 23)
  have bc := Blk.new w 23 #[.int .i64 s, .int .i64 t, .int .i64 f, .int .i64 l, .int .i64 p]
  have mc := fun i => bc.cell i
  go_enter Tryz.func7, Tryz.ntmps7
  go_wp2_with fail
  refine (MN.out _ B0).mono ?_
  rintro e w1 ⟨⟨gm, gw, rfl, M, hg1, hg2⟩, hb1⟩
  have HGM := hide (Nat.le_trans B0.size hg1)
  have HGW := hide (Nat.le_trans B0.size hg2)
  have HCG := hide (show some w.heap.size ≠ some gw from fun e => by have h1 := bc.lt; injection e with e; omega)
  replace bc := bc.below hb1 bc.lt
  replace B0 := B0.trans (hb1.mono B0.size)
  clear hb1 mc hg1 hg2
  go_wp2_with fail
  refine wp_region_heldZ [23] (fun w' => w'.cell? ⟨gm, 0, none⟩ = some (.int .i64 s) ∧ w'.cell? ⟨gm, 1, none⟩ = some (.int .i64 t) ∧ w'.cell? ⟨gm, 2, none⟩ = some (.int .i64 f) ∧ w'.cell? ⟨gm, 3, none⟩ = some (.int .i64 l) ∧ w'.cell? ⟨gm, 4, none⟩ = some (.int .i64 p)) (by kernel_rfl) (by exact mem5 M) (fun hHeld => ?_)
  replace M := M.drew
  replace bc := bc.drew
  replace B0 := B0.drew
  generalize w1.drew = w1x at *
  refine' wpAnyZ_takeA (i := 0) (v := ?_) (opAt rfl) (by kernel_rfl) (by kernel_rfl) (by kernel_rfl) (by kernel_rfl) (fun _ _ _ h => h) (by assumption) (by rfl) (fun w hSw => ?_) ?_
  rotate_left
  · (try dsimp only at hSw); go_simp; (try with_reducible rfl)
  try simp only [Act.put, List.setIfInBounds_toArray, List.set_cons_zero, List.set_cons_succ]
  refine' wpAnyZ_takeA (i := 1) (v := ?_) (opAt rfl) (by kernel_rfl) (by kernel_rfl) (by kernel_rfl) (by kernel_rfl) (fun _ _ _ h => h) (by assumption) (by rfl) (fun w hSw => ?_) ?_
  rotate_left
  · (try dsimp only at hSw); go_simp; (try with_reducible rfl)
  try simp only [Act.put, List.setIfInBounds_toArray, List.set_cons_zero, List.set_cons_succ]
  refine' wpAnyZ_takeA (i := 2) (v := ?_) (opAt rfl) (by kernel_rfl) (by kernel_rfl) (by kernel_rfl) (by kernel_rfl) (fun _ _ _ h => h) (by assumption) (by rfl) (fun w hSw => ?_) ?_
  rotate_left
  · (try dsimp only at hSw); go_simp; (try with_reducible rfl)
  try simp only [Act.put, List.setIfInBounds_toArray, List.set_cons_zero, List.set_cons_succ]
  refine' wpAnyZ_takeA (i := 3) (v := ?_) (opAt rfl) (by kernel_rfl) (by kernel_rfl) (by kernel_rfl) (by kernel_rfl) (fun _ _ _ h => h) (by assumption) (by rfl) (fun w hSw => ?_) ?_
  rotate_left
  · (try dsimp only at hSw); go_simp; (try with_reducible rfl)
  try simp only [Act.put, List.setIfInBounds_toArray, List.set_cons_zero, List.set_cons_succ]
  refine' wpAnyZ_takeA (i := 4) (v := ?_) (opAt rfl) (by kernel_rfl) (by kernel_rfl) (by kernel_rfl) (by kernel_rfl) (fun _ _ _ h => h) (by assumption) (by rfl) (fun w hSw => ?_) ?_
  rotate_left
  · (try dsimp only at hSw); go_simp; (try with_reducible rfl)
  try simp only [Act.put, List.setIfInBounds_toArray, List.set_cons_zero, List.set_cons_succ]
  refine' wpAnyZ_takeA (i := 8) (v := ?_) (opAt rfl) (by kernel_rfl) (by kernel_rfl) (by kernel_rfl) (by kernel_rfl) (fun _ _ _ h => h) (by assumption) (by rfl) (fun w hSw => ?_) ?_
  rotate_left
  · (try dsimp only at hSw); go_simp; (try with_reducible rfl)
  try simp only [Act.put, List.setIfInBounds_toArray, List.set_cons_zero, List.set_cons_succ]
  refine' wpAnyZ_takeA (i := 9) (v := ?_) (opAt rfl) (by kernel_rfl) (by kernel_rfl) (by kernel_rfl) (by kernel_rfl) (fun _ _ _ h => h) (by assumption) (by rfl) (fun w hSw => ?_) ?_
  rotate_left
  · (try dsimp only at hSw); go_simp; (try with_reducible rfl)
  try simp only [Act.put, List.setIfInBounds_toArray, List.set_cons_zero, List.set_cons_succ]
  refine' wpAnyZ_takeA (i := 10) (v := ?_) (opAt rfl) (by kernel_rfl) (by kernel_rfl) (by kernel_rfl) (by kernel_rfl) (fun _ _ _ h => h) (by assumption) (by rfl) (fun w hSw => ?_) ?_
  rotate_left
  · (try dsimp only at hSw); go_simp; (try with_reducible rfl)
  try simp only [Act.put, List.setIfInBounds_toArray, List.set_cons_zero, List.set_cons_succ]
  refine' wpAnyZ_takeA (i := 11) (v := ?_) (opAt rfl) (by kernel_rfl) (by kernel_rfl) (by kernel_rfl) (by kernel_rfl) (fun _ _ _ h => h) (by assumption) (by rfl) (fun w hSw => ?_) ?_
  rotate_left
  · (try dsimp only at hSw); go_simp; (try with_reducible rfl)
  try simp only [Act.put, List.setIfInBounds_toArray, List.set_cons_zero, List.set_cons_succ]
  refine' wpAnyZ_takeA (i := 15) (v := ?_) (opAt rfl) (by kernel_rfl) (by kernel_rfl) (by kernel_rfl) (by kernel_rfl) (fun _ _ _ h => h) (by assumption) (by rfl) (fun w hSw => ?_) ?_
  rotate_left
  · (try dsimp only at hSw); go_simp; (try with_reducible rfl)
  try simp only [Act.put, List.setIfInBounds_toArray, List.set_cons_zero, List.set_cons_succ]
  refine' wpAnyZ_takeA (i := 16) (v := ?_) (opAt rfl) (by kernel_rfl) (by kernel_rfl) (by kernel_rfl) (by kernel_rfl) (fun _ _ _ h => h) (by assumption) (by rfl) (fun w hSw => ?_) ?_
  rotate_left
  · (try dsimp only at hSw); go_simp; (try with_reducible rfl)
  try simp only [Act.put, List.setIfInBounds_toArray, List.set_cons_zero, List.set_cons_succ]
  refine' wpAnyZ_takeA (i := 17) (v := ?_) (opAt rfl) (by kernel_rfl) (by kernel_rfl) (by kernel_rfl) (by kernel_rfl) (fun _ _ _ h => h) (by assumption) (by rfl) (fun w hSw => ?_) ?_
  rotate_left
  · (try dsimp only at hSw); go_simp; (try with_reducible rfl)
  try simp only [Act.put, List.setIfInBounds_toArray, List.set_cons_zero, List.set_cons_succ]
  refine' wpAnyZ_takeA (i := 18) (v := ?_) (opAt rfl) (by kernel_rfl) (by kernel_rfl) (by kernel_rfl) (by kernel_rfl) (fun _ _ _ h => h) (by assumption) (by rfl) (fun w hSw => ?_) ?_
  rotate_left
  · (try dsimp only at hSw); go_simp; (try with_reducible rfl)
  try simp only [Act.put, List.setIfInBounds_toArray, List.set_cons_zero, List.set_cons_succ]
  refine wpAnyZ_ready (rs := [5]) (by kernel_rfl) (by simp) ?_
  refine AllReadyZ.cons (opAt rfl) (fun K hK => ?_) ?_
  · skip
    go_simp
    refine (C1.out _).mono ?_
    rintro e w2 ⟨rfl, hb1⟩
    replace M := M.below hb1
    replace bc := bc.below hb1 bc.lt
    replace B0 := B0.trans (hb1.mono B0.size)
    clear hb1
    try go_wp2_with fail
    refine hK.out _ _ (by exact mem5 M) (fun hHeld => ?_)
    clear hK K
    try simp only [Act.put, List.setIfInBounds_toArray, List.set_cons_zero, List.set_cons_succ]
    refine wpAnyZ_ready (rs := [6]) (by kernel_rfl) (by simp) ?_
    refine AllReadyZ.cons (opAt rfl) (fun K hK => ?_) ?_
    · skip
      go_simp
      refine (C2.out _).mono ?_
      rintro e w2x ⟨rfl, rfl⟩
      try go_wp2_with fail
      refine hK.out _ _ (by exact mem5 M) (fun hHeld => ?_)
      clear hK K
      try simp only [Act.put, List.setIfInBounds_toArray, List.set_cons_zero, List.set_cons_succ]
      refine' wpAnyZ_takeA (i := 7) (v := ?_) (opAt rfl) (by kernel_rfl) (by kernel_rfl) (by kernel_rfl) (by kernel_rfl) (fun _ _ _ h => h) (by assumption) (by rfl) (fun w hSw => ?_) ?_
      rotate_left
      · (try dsimp only at hSw); go_simp; (try with_reducible rfl)
      try simp only [Act.put, List.setIfInBounds_toArray, List.set_cons_zero, List.set_cons_succ]
      refine wpAnyZ_ready (rs := [12]) (by kernel_rfl) (by simp) ?_
      refine AllReadyZ.cons (opAt rfl) (fun K hK => ?_) ?_
      · skip
        go_simp
        refine (C3.out _).mono ?_
        rintro e w3 ⟨rfl, hb1⟩
        replace M := M.below hb1
        replace bc := bc.below hb1 bc.lt
        replace B0 := B0.trans (hb1.mono B0.size)
        clear hb1
        try go_wp2_with fail
        refine hK.out _ _ (by exact mem5 M) (fun hHeld => ?_)
        clear hK K
        try simp only [Act.put, List.setIfInBounds_toArray, List.set_cons_zero, List.set_cons_succ]
        refine wpAnyZ_ready (rs := [13]) (by kernel_rfl) (by simp) ?_
        refine AllReadyZ.cons (opAt rfl) (fun K hK => ?_) ?_
        · skip
          go_simp
          refine (C4.out _).mono ?_
          rintro e w3x ⟨rfl, rfl⟩
          try go_wp2_with fail
          refine hK.out _ _ (by exact mem5 M) (fun hHeld => ?_)
          clear hK K
          try simp only [Act.put, List.setIfInBounds_toArray, List.set_cons_zero, List.set_cons_succ]
          refine' wpAnyZ_takeA (i := 14) (v := ?_) (opAt rfl) (by kernel_rfl) (by kernel_rfl) (by kernel_rfl) (by kernel_rfl) (fun _ _ _ h => h) (by assumption) (by rfl) (fun w hSw => ?_) ?_
          rotate_left
          · (try dsimp only at hSw); go_simp; (try with_reducible rfl)
          try simp only [Act.put, List.setIfInBounds_toArray, List.set_cons_zero, List.set_cons_succ]
          refine wpAnyZ_ready (rs := [19]) (by kernel_rfl) (by simp) ?_
          refine AllReadyZ.cons (opAt rfl) (fun K hK => ?_) ?_
          · skip
            go_simp
            refine (C5.out _).mono ?_
            rintro e w4 ⟨rfl, hb1⟩
            replace M := M.below hb1
            replace bc := bc.below hb1 bc.lt
            replace B0 := B0.trans (hb1.mono B0.size)
            clear hb1
            try go_wp2_with fail
            refine hK.out _ _ (by exact mem5 M) (fun hHeld => ?_)
            clear hK K
            try simp only [Act.put, List.setIfInBounds_toArray, List.set_cons_zero, List.set_cons_succ]
            refine wpAnyZ_ready (rs := [20]) (by kernel_rfl) (by simp) ?_
            refine AllReadyZ.cons (opAt rfl) (fun K hK => ?_) ?_
            · skip
              go_simp
              refine (C6.out _).mono ?_
              rintro e w4x ⟨rfl, rfl⟩
              try go_wp2_with fail
              refine hK.out _ _ (by exact mem5 M) (fun hHeld => ?_)
              clear hK K
              try simp only [Act.put, List.setIfInBounds_toArray, List.set_cons_zero, List.set_cons_succ]
              refine' wpAnyZ_takeA (i := 21) (v := ?_) (opAt rfl) (by kernel_rfl) (by kernel_rfl) (by kernel_rfl) (by kernel_rfl) (fun _ _ _ h => h) (by assumption) (by rfl) (fun w hSw => ?_) ?_
              rotate_left
              · (try dsimp only at hSw); go_simp; (try with_reducible rfl)
              try simp only [Act.put, List.setIfInBounds_toArray, List.set_cons_zero, List.set_cons_succ]
              refine wpAnyZ_ready (rs := [22]) (by kernel_rfl) (by simp) ?_
              refine AllReadyZ.cons (opAt rfl) (fun K hK => ?_) ?_
              · skip
                go_simp
                have bl := Blk.new w4 35 #[.int .i64 p1, .int .u64 3, .int .i64 p2, .int .u64 65537, .int .i64 p3, .int .u64 1099511627776]
                have hrd := Reads.blk bl 3 2 rfl
                rw [show w4.heap.size + 1 = (w4.alloc (.cells #[.int .i64 p1, .int .u64 3, .int .i64 p2, .int .u64 65537, .int .i64 p3, .int .u64 1099511627776] 35)).heap.size by rw [World.size_alloc]] at hrd
                have HGL := hide (show w4.heap.size ≠ gw from fun e => by have h9 := Blk.lt M.2.1; omega)
                replace M := M.below ((Below.refl w4.heap.size w4).alloc (Nat.le_refl _) (.cells #[.int .i64 p1, .int .u64 3, .int .i64 p2, .int .u64 65537, .int .i64 p3, .int .u64 1099511627776] 35))
                replace bc := bc.alloc (.cells #[.int .i64 p1, .int .u64 3, .int .i64 p2, .int .u64 65537, .int .i64 p3, .int .u64 1099511627776] 35)
                replace B0 := B0.alloc B0.size (.cells #[.int .i64 p1, .int .u64 3, .int .i64 p2, .int .u64 65537, .int .i64 p3, .int .u64 1099511627776] 35)
                clear bl
                generalize w4.alloc (.cells #[.int .i64 p1, .int .u64 3, .int .i64 p2, .int .u64 65537, .int .i64 p3, .int .u64 1099511627776] 35) = w5 at *
                generalize w4.heap.size = gl at *
                refine hK.out _ _ (by exact mem5 M) (fun hHeld => ?_)
                clear hK K
                try simp only [Act.put, List.setIfInBounds_toArray, List.set_cons_zero, List.set_cons_succ]
                refine wpAnyZ_ready (rs := [23]) (by kernel_rfl) (by simp) ?_
                refine AllReadyZ.last (opAt rfl) (by kernel_rfl) (fun K hK => ?_) ?_
                · skip
                  go_simp
                  refine (write_any gm gw s t f l p (some ⟨gl, 0, none⟩) 3 3 (zs N) [((p1 : Nat), 3), ((p2 : Nat), 65537), ((p3 : Nat), 1099511627776)] _ M hrd (fun _ ad e => by injection e with e; subst e; exact HGL.out) (by decide)).mono ?_
                  rintro e w6 ⟨⟨v9, rfl⟩, M9, hg9⟩
                  replace M := M9
                  replace bc := bc.grown hg9 HCG.out
                  replace B0 := below_grown B0 hg9 HGW.out B0.size
                  clear M9 hg9 hrd HGL
                  try go_wp2_with fail
                  refine hK.out _ _ ?_
                  clear hK K
                  try simp only [Act.put, List.setIfInBounds_toArray, List.set_cons_zero, List.set_cons_succ]
                  refine wpAnyZ_done (by kernel_rfl) ?_ _
                  have hwz : BegD s t f s (mWri (zs N) [((p1 : Nat), 3), ((p2 : Nat), 65537), ((p3 : Nat), 1099511627776)] 3) := by
                    show BegD s t f s (wPut (wPut (wPut (zs N) p1 3) p2 65537) p3 1099511627776)
                    rw [wPut_set (ws := zs N) (p := p1) (by rw [zs_len]; exact HP.out.1), wPut_set (ws := (zs N).set p1 3) (p := p2) (by rw [List.length_set, zs_len]; exact HP.out.2.1), wPut_set (ws := ((zs N).set p1 3).set p2 65537) (p := p3) (by simp only [List.length_set, zs_len]; exact HP.out.2.2)]
                    intro j hj
                    rw [dK_top]
                    exact BG.out j hj
                  have hwl : (mWri (zs N) [((p1 : Nat), 3), ((p2 : Nat), 65537), ((p3 : Nat), 1099511627776)] 3).length = N := by rw [mWri_len, zs_len]
                  generalize mWri (zs N) [((p1 : Nat), 3), ((p2 : Nat), 65537), ((p3 : Nat), 1099511627776)] 3 = ws0 at *
                  clear BG HP C1 C2 C3 C4 C5 C6
                  have mc := fun i => bc.cell i
                  go_wp2_with fail
                  clear mc
                  go_loopw [4, 5] (AnIn gm gw w.heap.size N s t f l p w) (fun _ i _ => (intOf i).toNat)
                  case atStart => exact ⟨s, 0, ws0, rfl, rfl, by omega, by omega, by rw [if_neg (by omega)], M, hwl, hwz, bc, B0⟩
                  case round =>
                    clear M hwl hwz bc B0
                    obtain ⟨k, fr, ws, rfl, rfl, hk1, hks, hfr, M, hwl, hD, bc, B0⟩ := hrel
                    have HFR := hide hfr
                    have hfb : 0 ≤ fr ∧ fr ≤ 1001 := by rw [hfr]; split <;> omega
                    clear hfr
                    by_cases hk : 2 ≤ k
                    · have bk := nB_bd hs ht hf (sl := k) (by omega)
                      obtain ⟨q, hq⟩ : ∃ q : Nat, nB t f k = q := Int.eq_ofNat_of_zero_le (by omega)
                      have CVk := hide (CV.out k hk hks q hq)
                      have CLk := hide (CK.out k hk hks q hq)
                      rw [show (q : Int) + 2 = ((q + 2 : Nat) : Int) by omega] at CLk
                      have hqN : q + 2 < ws.length := by have := HNN.out; omega
                      have ST := hide (begD_step (by omega) hk hks hq hqN hD)
                      rw [← HFR.out] at ST
                      have hw1 : IntKind.u64.wrap fr = fr := IntWalk.u64_in _ (by omega)
                      have hw2 : IntKind.i64.wrap (k - 1) = k - 1 := IntWalk.i64_in _ (by omega)
                      have HK2 := hide (show k = if k - 1 < s then k - 1 + 1 else 0 by rw [if_pos (by omega)]; omega)
                      have HWL := hide hwl
                      clear bk hq hqN hD hwl
                      generalize q + 2 = q2 at *
                      go_wp2_with fail
                      refine wp_region_heldZ [19] (fun w' => w'.cell? ⟨gm, 0, none⟩ = some (.int .i64 s) ∧ w'.cell? ⟨gm, 1, none⟩ = some (.int .i64 t) ∧ w'.cell? ⟨gm, 2, none⟩ = some (.int .i64 f) ∧ w'.cell? ⟨gm, 3, none⟩ = some (.int .i64 l) ∧ w'.cell? ⟨gm, 4, none⟩ = some (.int .i64 p)) (by kernel_rfl) (by exact mem5 M) (fun hHeld => ?_)
                      replace M := M.drew
                      replace bc := bc.drew
                      replace B0 := B0.drew
                      generalize wr.drew = w7 at *
                      refine' wpAnyZ_takeA (i := 0) (v := ?_) (opAt rfl) (by kernel_rfl) (by kernel_rfl) (by kernel_rfl) (by kernel_rfl) (fun _ _ _ h => h) (by assumption) (by rfl) (fun w hSw => ?_) ?_
                      rotate_left
                      · (try dsimp only at hSw); go_simp; (try with_reducible rfl)
                      try simp only [Act.put, List.setIfInBounds_toArray, List.set_cons_zero, List.set_cons_succ]
                      refine' wpAnyZ_takeA (i := 1) (v := ?_) (opAt rfl) (by kernel_rfl) (by kernel_rfl) (by kernel_rfl) (by kernel_rfl) (fun _ _ _ h => h) (by assumption) (by rfl) (fun w hSw => ?_) ?_
                      rotate_left
                      · (try dsimp only at hSw); go_simp; (try with_reducible rfl)
                      try simp only [Act.put, List.setIfInBounds_toArray, List.set_cons_zero, List.set_cons_succ]
                      refine' wpAnyZ_takeA (i := 2) (v := ?_) (opAt rfl) (by kernel_rfl) (by kernel_rfl) (by kernel_rfl) (by kernel_rfl) (fun _ _ _ h => h) (by assumption) (by rfl) (fun w hSw => ?_) ?_
                      rotate_left
                      · (try dsimp only at hSw); go_simp; (try with_reducible rfl)
                      try simp only [Act.put, List.setIfInBounds_toArray, List.set_cons_zero, List.set_cons_succ]
                      refine' wpAnyZ_takeA (i := 3) (v := ?_) (opAt rfl) (by kernel_rfl) (by kernel_rfl) (by kernel_rfl) (by kernel_rfl) (fun _ _ _ h => h) (by assumption) (by rfl) (fun w hSw => ?_) ?_
                      rotate_left
                      · (try dsimp only at hSw); go_simp; (try with_reducible rfl)
                      try simp only [Act.put, List.setIfInBounds_toArray, List.set_cons_zero, List.set_cons_succ]
                      refine' wpAnyZ_takeA (i := 4) (v := ?_) (opAt rfl) (by kernel_rfl) (by kernel_rfl) (by kernel_rfl) (by kernel_rfl) (fun _ _ _ h => h) (by assumption) (by rfl) (fun w hSw => ?_) ?_
                      rotate_left
                      · (try dsimp only at hSw); go_simp; (try with_reducible rfl)
                      try simp only [Act.put, List.setIfInBounds_toArray, List.set_cons_zero, List.set_cons_succ]
                      refine' wpAnyZ_takeA (i := 5) (v := ?_) (opAt rfl) (by kernel_rfl) (by kernel_rfl) (by kernel_rfl) (by kernel_rfl) (fun _ _ _ h => h) (by assumption) (by rfl) (fun w hSw => ?_) ?_
                      rotate_left
                      · (try dsimp only at hSw); go_simp; (try with_reducible rfl)
                      try simp only [Act.put, List.setIfInBounds_toArray, List.set_cons_zero, List.set_cons_succ]
                      refine' wpAnyZ_takeA (i := 9) (v := ?_) (opAt rfl) (by kernel_rfl) (by kernel_rfl) (by kernel_rfl) (by kernel_rfl) (fun _ _ _ h => h) (by assumption) (by rfl) (fun w hSw => ?_) ?_
                      rotate_left
                      · (try dsimp only at hSw); go_simp; (try with_reducible rfl)
                      try simp only [Act.put, List.setIfInBounds_toArray, List.set_cons_zero, List.set_cons_succ]
                      refine' wpAnyZ_takeA (i := 10) (v := ?_) (opAt rfl) (by kernel_rfl) (by kernel_rfl) (by kernel_rfl) (by kernel_rfl) (fun _ _ _ h => h) (by assumption) (by rfl) (fun w hSw => ?_) ?_
                      rotate_left
                      · (try dsimp only at hSw); go_simp; (try with_reducible rfl)
                      try simp only [Act.put, List.setIfInBounds_toArray, List.set_cons_zero, List.set_cons_succ]
                      refine' wpAnyZ_takeA (i := 11) (v := ?_) (opAt rfl) (by kernel_rfl) (by kernel_rfl) (by kernel_rfl) (by kernel_rfl) (fun _ _ _ h => h) (by assumption) (by rfl) (fun w hSw => ?_) ?_
                      rotate_left
                      · (try dsimp only at hSw); go_simp; (try with_reducible rfl)
                      try simp only [Act.put, List.setIfInBounds_toArray, List.set_cons_zero, List.set_cons_succ]
                      refine' wpAnyZ_takeA (i := 12) (v := ?_) (opAt rfl) (by kernel_rfl) (by kernel_rfl) (by kernel_rfl) (by kernel_rfl) (fun _ _ _ h => h) (by assumption) (by rfl) (fun w hSw => ?_) ?_
                      rotate_left
                      · (try dsimp only at hSw); go_simp; (try with_reducible rfl)
                      try simp only [Act.put, List.setIfInBounds_toArray, List.set_cons_zero, List.set_cons_succ]
                      refine' wpAnyZ_takeA (i := 13) (v := ?_) (opAt rfl) (by kernel_rfl) (by kernel_rfl) (by kernel_rfl) (by kernel_rfl) (fun _ _ _ h => h) (by assumption) (by rfl) (fun w hSw => ?_) ?_
                      rotate_left
                      · (try dsimp only at hSw); go_simp; (try with_reducible rfl)
                      try simp only [Act.put, List.setIfInBounds_toArray, List.set_cons_zero, List.set_cons_succ]
                      refine' wpAnyZ_takeA (i := 15) (v := ?_) (opAt rfl) (by kernel_rfl) (by kernel_rfl) (by kernel_rfl) (by kernel_rfl) (fun _ _ _ h => h) (by assumption) (by rfl) (fun w hSw => ?_) ?_
                      rotate_left
                      · (try dsimp only at hSw); go_simp; (try with_reducible rfl)
                      try simp only [Act.put, List.setIfInBounds_toArray, List.set_cons_zero, List.set_cons_succ]
                      refine' wpAnyZ_takeA (i := 16) (v := ?_) (opAt rfl) (by kernel_rfl) (by kernel_rfl) (by kernel_rfl) (by kernel_rfl) (fun _ _ _ h => h) (by assumption) (by rfl) (fun w hSw => ?_) ?_
                      rotate_left
                      · (try dsimp only at hSw); go_simp; (try with_reducible rfl)
                      try simp only [Act.put, List.setIfInBounds_toArray, List.set_cons_zero, List.set_cons_succ]
                      refine wpAnyZ_ready (rs := [6]) (by kernel_rfl) (by simp) ?_
                      refine AllReadyZ.cons (opAt rfl) (fun K hK => ?_) ?_
                      · skip
                        go_simp
                        refine (CVk.out _).mono ?_
                        rintro e w8 ⟨rfl, hb1⟩
                        replace M := M.below hb1
                        replace bc := bc.below hb1 bc.lt
                        replace B0 := B0.trans (hb1.mono B0.size)
                        clear hb1
                        try go_wp2_with fail
                        refine hK.out _ _ (by exact mem5 M) (fun hHeld => ?_)
                        clear hK K
                        try simp only [Act.put, List.setIfInBounds_toArray, List.set_cons_zero, List.set_cons_succ]
                        refine wpAnyZ_ready (rs := [7]) (by kernel_rfl) (by simp) ?_
                        refine AllReadyZ.cons (opAt rfl) (fun K hK => ?_) ?_
                        · skip
                          go_simp
                          refine (C7.out _).mono ?_
                          rintro e w8x ⟨rfl, rfl⟩
                          try go_wp2_with fail
                          refine hK.out _ _ (by exact mem5 M) (fun hHeld => ?_)
                          clear hK K
                          try simp only [Act.put, List.setIfInBounds_toArray, List.set_cons_zero, List.set_cons_succ]
                          refine' wpAnyZ_takeA (i := 8) (v := ?_) (opAt rfl) (by kernel_rfl) (by kernel_rfl) (by kernel_rfl) (by kernel_rfl) (fun _ _ _ h => h) (by assumption) (by rfl) (fun w hSw => ?_) ?_
                          rotate_left
                          · (try dsimp only at hSw); go_simp; (try with_reducible rfl)
                          try simp only [Act.put, List.setIfInBounds_toArray, List.set_cons_zero, List.set_cons_succ]
                          refine wpAnyZ_ready (rs := [14]) (by kernel_rfl) (by simp) ?_
                          refine AllReadyZ.cons (opAt rfl) (fun K hK => ?_) ?_
                          · skip
                            go_simp
                            refine (CLk.out _).mono ?_
                            rintro e w9 ⟨rfl, hb1⟩
                            replace M := M.below hb1
                            replace bc := bc.below hb1 bc.lt
                            replace B0 := B0.trans (hb1.mono B0.size)
                            clear hb1
                            try go_wp2_with fail
                            refine hK.out _ _ (by exact mem5 M) (fun hHeld => ?_)
                            clear hK K
                            try simp only [Act.put, List.setIfInBounds_toArray, List.set_cons_zero, List.set_cons_succ]
                            refine' wpAnyZ_takeA (i := 17) (v := ?_) (opAt rfl) (by kernel_rfl) (by kernel_rfl) (by kernel_rfl) (by kernel_rfl) (fun _ _ _ h => h) (by assumption) (by rfl) (fun w hSw => ?_) ?_
                            rotate_left
                            · (try dsimp only at hSw); go_simp; (try with_reducible rfl)
                            try simp only [Act.put, List.setIfInBounds_toArray, List.set_cons_zero, List.set_cons_succ]
                            refine wpAnyZ_ready (rs := [18]) (by kernel_rfl) (by simp) ?_
                            refine AllReadyZ.cons (opAt rfl) (fun K hK => ?_) ?_
                            · skip
                              go_simp
                              have bl := Blk.new w9 35 #[.int .i64 q, .int .u64 2, .int .i64 q2, .int .u64 fr]
                              have hrd := Reads.blk bl 2 2 rfl
                              rw [show w9.heap.size + 1 = (w9.alloc (.cells #[.int .i64 q, .int .u64 2, .int .i64 q2, .int .u64 fr] 35)).heap.size by rw [World.size_alloc]] at hrd
                              have HGL := hide (show w9.heap.size ≠ gw from fun e => by have h9 := Blk.lt M.2.1; omega)
                              replace M := M.below ((Below.refl w9.heap.size w9).alloc (Nat.le_refl _) (.cells #[.int .i64 q, .int .u64 2, .int .i64 q2, .int .u64 fr] 35))
                              replace bc := bc.alloc (.cells #[.int .i64 q, .int .u64 2, .int .i64 q2, .int .u64 fr] 35)
                              replace B0 := B0.alloc B0.size (.cells #[.int .i64 q, .int .u64 2, .int .i64 q2, .int .u64 fr] 35)
                              clear bl
                              generalize w9.alloc (.cells #[.int .i64 q, .int .u64 2, .int .i64 q2, .int .u64 fr] 35) = wA at *
                              generalize w9.heap.size = gl at *
                              refine hK.out _ _ (by exact mem5 M) (fun hHeld => ?_)
                              clear hK K
                              try simp only [Act.put, List.setIfInBounds_toArray, List.set_cons_zero, List.set_cons_succ]
                              refine wpAnyZ_ready (rs := [19]) (by kernel_rfl) (by simp) ?_
                              refine AllReadyZ.last (opAt rfl) (by kernel_rfl) (fun K hK => ?_) ?_
                              · skip
                                go_simp
                                refine (write_any gm gw s t f l p (some ⟨gl, 0, none⟩) 2 2 (ws) [((q : Nat), 2), ((q2 : Nat), fr)] _ M hrd (fun _ ad e => by injection e with e; subst e; exact HGL.out) (by decide)).mono ?_
                                rintro e wB ⟨⟨v9, rfl⟩, M9, hg9⟩
                                replace M := M9
                                replace bc := bc.grown hg9 HCG.out
                                replace B0 := below_grown B0 hg9 HGW.out B0.size
                                clear M9 hg9 hrd HGL
                                try go_wp2_with fail
                                refine hK.out _ _ ?_
                                clear hK K
                                try simp only [Act.put, List.setIfInBounds_toArray, List.set_cons_zero, List.set_cons_succ]
                                refine wpAnyZ_done (by kernel_rfl) ?_ _
                                go_wp2_with fail
                                go_roundw
                                case measure => simp [intOf]; omega
                                case rel => exact ⟨k - 1, k, _, by go_num, by go_num, by omega, by omega, HK2.out, M, by rw [mWri_len]; exact HWL.out, ST.out, bc, B0⟩
                              exact AllReadyZ.nil
                            exact AllReadyZ.nil
                          exact AllReadyZ.nil
                        exact AllReadyZ.nil
                      exact AllReadyZ.nil
                    · have hk1e : k = 1 := by omega
                      subst hk1e
                      have hfe : fr = 2 ∨ fr = 0 := by rw [HFR.out]; split <;> omega
                      have HE := hide (begD_end (by rw [hwl]; have := HNN.out; omega) (by rw [hwl]; have := HNN.out; have := size_pos hs ht hf; omega) hD)
                      have HF2 := hide (show (if 2 ≤ s then (2 : Int) else 0) = fr by rw [HFR.out]; repeat' split <;> omega)
                      have HM := hide (fun w2 => Go.Proofs.YtlnckjemfabckaaGreatDoor.hmake_any 0 fr w2 ⟨by omega, by omega⟩ ⟨by omega, by omega⟩)
                      have hfm : hmake 0 fr = fr := by rcases hfe with h | h <;> (rw [h]; rfl)
                      rw [hfm] at HM
                      rw [HF2.out] at HE
                      clear hD hwl hfe hfm
                      have mm := mem5 M
                      obtain ⟨m0, m1, m2, m3, m4⟩ := mm
                      go_wp2_with fail
                      clear m0 m1 m2 m3 m4
                      refine (C8.out _).mono ?_
                      rintro e wC ⟨rfl, hb1⟩
                      replace M := M.below hb1
                      replace bc := bc.below hb1 bc.lt
                      replace B0 := B0.trans (hb1.mono B0.size)
                      clear hb1
                      go_wp2_with fail
                      refine (HM.out _).mono ?_
                      rintro e wD ⟨rfl, rfl⟩
                      go_wp2_with fail
                      have bl := Blk.new wC 35 #[.int .i64 2, .int .u64 fr]
                      have hrd := Reads.blk bl 1 2 rfl
                      rw [show wC.heap.size + 1 = (wC.alloc (.cells #[.int .i64 2, .int .u64 fr] 35)).heap.size by rw [World.size_alloc]] at hrd
                      have HGL := hide (show wC.heap.size ≠ gw from fun e => by have h9 := Blk.lt M.2.1; omega)
                      replace M := M.below ((Below.refl wC.heap.size wC).alloc (Nat.le_refl _) (.cells #[.int .i64 2, .int .u64 fr] 35))
                      replace bc := bc.alloc (.cells #[.int .i64 2, .int .u64 fr] 35)
                      replace B0 := B0.alloc B0.size (.cells #[.int .i64 2, .int .u64 fr] 35)
                      clear bl
                      generalize wC.alloc (.cells #[.int .i64 2, .int .u64 fr] 35) = wE at *
                      generalize wC.heap.size = gl at *
                      refine (write_any gm gw s t f l p (some ⟨gl, 0, none⟩) 1 1 (ws) [(2, fr)] _ M hrd (fun _ ad e => by injection e with e; subst e; exact HGL.out) (by decide)).mono ?_
                      rintro e wF ⟨⟨v9, rfl⟩, M9, hg9⟩
                      replace M := M9
                      replace bc := bc.grown hg9 HCG.out
                      replace B0 := below_grown B0 hg9 HGW.out B0.size
                      clear M9 hg9 hrd HGL
                      try go_wp2_with fail
                      go_ret
                      refine ⟨⟨gm, gw, rfl, ?_, HGM.out, HGW.out⟩, B0⟩
                      have e9 : mWri ws [(2, fr)] 1 = begL s t f := HE.out
                      rw [← e9]
                      exact M
                exact AllReadyZ.nil
              exact AllReadyZ.nil
            exact AllReadyZ.nil
          exact AllReadyZ.nil
        exact AllReadyZ.nil
      exact AllReadyZ.nil
    exact AllReadyZ.nil
  exact AllReadyZ.nil
end Go.Proofs.YtlnckjemfabckaaGreatDoor

/-
  A map from ints to bools that the call itself makes: what stands at a key, behind a store.
-/
namespace Go.Proofs.YtlnckjemfabckaaGreatDoor
open Go.RowKit Go.Maps

theorem lawI64 : Keyed Tryz.prog 3 := int_keyed Tryz.underlying3
theorem zeroBoolI (w : World) : (zeroValue 4).run Tryz.prog w = .ok (.bool false) w := by kernel_rfl

theorem plainElem_bool_invI {H : Type} {P : Program} {e : TypeId} (he : P.underlying e = some .bool) {v : Value} {z : DataW H × List MemPlace} (h : plainElem P e v = some z) : ∃ a, v = .bool a ∧ z = (.lit (.bool a), []) := by
  unfold plainElem at h
  rw [he] at h
  cases v <;> simp at h
  exact ⟨_, rfl, h.symm⟩

/-- Block b is a map of at most n entries that answers f. -/
def MapInt (w : World) (b n : Nat) (f : Int → Bool) : Prop :=
  ∃ D : DataW Unit, IsMap D ∧ w.ownsMap Tryz.prog 3 (plainElem Tryz.prog 4) b n D ∧ ∀ k : Int, (Lit.int .i64 k).wf = true → D.atKey (.int .i64 k) (.lit (.bool false)) = .lit (.bool (f k))

theorem MapInt.made (w : World) : MapInt (w.alloc (.map #[] 0)) w.heap.size 0 (fun _ => false) :=
  ⟨.map [], ⟨[], rfl⟩, World.ownsMap_made _ _ _ _, fun _ _ => rfl⟩
theorem MapInt.below {w w' : World} {b n : Nat} {f : Int → Bool} (h : MapInt w b n f) (hb : Below w.heap.size w w') : MapInt w' b n f := by
  obtain ⟨D, hi, ho, ha⟩ := h
  exact ⟨D, hi, ho.kept (row := none) ⟨hb.os, hb.tape, hb.output, hb.size, fun k hk _ => hb.block k hk⟩ (by simp), ha⟩
theorem MapInt.below' {w w' : World} {b n B : Nat} {f : Int → Bool} (h : MapInt w b n f) (hB : b < B) (hb : Below B w w') : MapInt w' b n f := by
  obtain ⟨D, hi, ⟨es, cl, hh, r⟩, ha⟩ := h
  exact ⟨D, hi, ⟨es, cl, (hb.block b hB).trans hh, r⟩, ha⟩
theorem MapInt.alloc {w : World} {b n : Nat} {f : Int → Bool} (h : MapInt w b n f) (o : Obj) : MapInt (w.alloc o) b n f := by
  obtain ⟨D, hi, ho, ha⟩ := h
  exact ⟨D, hi, ho.alloc o, ha⟩
theorem MapInt.lt {w : World} {b n : Nat} {f : Int → Bool} (h : MapInt w b n f) : b < w.heap.size := by
  obtain ⟨D, hi, ho, ha⟩ := h
  exact ho.lt

theorem MapInt.look {w : World} {b n : Nat} {f : Int → Bool} (h : MapInt w b n f) (x : Int) (hx : (Lit.int .i64 x).wf = true) :
    (Instr.lookup 131 (.map (some b)) (.int .i64 x) false).run Tryz.prog w = .ok (.bool (f x)) w := by
  obtain ⟨D, hi, ho, ha⟩ := h
  obtain ⟨v, ps, hrun, hv⟩ := ho.lookup lawI64 Tryz.underlying131 (zeroBoolI w) (plainElem_bool Tryz.underlying4 false) (keyOf_int_mk Tryz.underlying3 hx)
  obtain ⟨a, rfl, e⟩ := plainElem_bool_invI Tryz.underlying4 hv
  have := ha x hx
  simp only [Prod.mk.injEq] at e
  rw [this] at e
  have e' : f x = a := by have := e.1; simpa using this
  rw [hrun, e']

theorem atKey_putI {D : DataW Unit} (hi : IsMap D) (x k : Int) (y : Bool) (z : DataW Unit) : (D.put (.int .i64 x) (.lit (.bool y))).atKey (.int .i64 k) z = if k = x then .lit (.bool y) else D.atKey (.int .i64 k) z := by
  by_cases h : k = x
  · subst h
    rw [if_pos rfl]
    exact atKey_put_same hi (by simp [WideAt.IsKeyLit]) _ _
  · rw [if_neg h]
    exact atKey_put_other (fun e => h (by injection e)) _ _

theorem wpList_mapUpdate_boolI {w : World} {ops : Array Oper} {rest : List Oper} {o : Oper} {a : Act} {Q : Exit → Act → World → Prop}
    (hg : o.guard = none) (m x v : Operand) (hop : o.op = Op.mapUpdate 131 m x v) {b n : Nat} {f : Int → Bool}
    (hm : a.eval m = .map (some b)) (hown : MapInt w b n f) (hn : n < maxLen) (k : Int) (y : Bool) (hx : a.eval x = .int .i64 k) (hv : a.eval v = .bool y) (hk : (Lit.int .i64 k).wf = true)
    (hK : ∀ w', MapInt w' b (n + 1) (fun j => if j = k then y else f j) → w.grownBy w' (some b) → wpList Tryz.prog ops Q rest (a.put o.dst undef) w') :
    wpList Tryz.prog ops Q (o :: rest) a w := by
  obtain ⟨D, hi, ho, ha⟩ := hown
  refine wpList_mapUpdate_own w hg m x v _ hop 3 4 lawI64 Tryz.underlying131 _ b n D hm ho hn _ _ (.int .i64 k) hx hv (keyOf_int_mk Tryz.underlying3 hk) (.lit (.bool y)) [] (plainElem_bool Tryz.underlying4 y) ?_
  intro w' h1 h2
  refine hK w' ⟨_, hi.put _ _, h1, fun j hj => ?_⟩ h2
  rw [atKey_putI hi]
  by_cases hjk : j = k
  · simp [hjk]
  · simp only [if_neg hjk]
    exact ha j hj

end Go.Proofs.YtlnckjemfabckaaGreatDoor

/-
  The list of free slots: arena.Free.
-/
namespace Go.Proofs.YtlnckjemfabckaaGreatDoor
open Go.RowKit Go.Maps

def frN (nx : Int → Int) (s : Int) : Nat → Int → List Int → List Int × Bool
  | 0, _, l => (l, false)
  | n + 1, x, l => if x = 0 then (l, true) else if s < x ∨ x ∈ l then (l, false) else frN nx s n (nx x) (l ++ [x])
def Nice (s : Int) (l : List Int) : Prop := l.Nodup ∧ ∀ x ∈ l, 1 ≤ x ∧ x ≤ s
theorem nice_nil (s : Int) : Nice s [] := ⟨List.nodup_nil, fun x hx => by simp at hx⟩
theorem nice_len : ∀ (n : Nat) (l : List Int), Nice (n : Int) l → l.length ≤ n
  | 0, l, h => by
    cases l with
    | nil => simp
    | cons x l => have := h.2 x (by simp); omega
  | n + 1, l, h => by
    have h1 : Nice (n : Int) (l.erase ((n : Int) + 1)) := by
      refine ⟨h.1.erase _, fun x hx => ?_⟩
      have hm := (h.1.mem_erase_iff).1 hx
      have := h.2 x hm.2
      have := hm.1
      omega
    have h2 := nice_len n _ h1
    have h3 := List.length_erase (a := (n : Int) + 1) (l := l)
    split at h3 <;> omega
theorem nice_snoc {s x : Int} {l : List Int} (h : Nice s l) (h1 : 1 ≤ x ∧ x ≤ s) (hn : x ∉ l) : Nice s (l ++ [x]) := by
  refine ⟨?_, fun y hy => ?_⟩
  · rw [List.nodup_append]
    refine ⟨h.1, by simp, fun a ha b hb => ?_⟩
    simp at hb
    subst hb
    exact fun e => hn (e ▸ ha)
  · rcases List.mem_append.1 hy with hy | hy
    · exact h.2 y hy
    · simp at hy
      omega
def nxt (ws : List Int) (t f k : Int) : Int := wGet ws (nB t f k + 2)
theorem wGet_w64 {ws : List Int} (h : AllW64 ws) (a : Int) : W64 (wGet ws a) := by
  unfold wGet
  split
  next c =>
    rw [List.getD_eq_getElem?_getD, List.getElem?_eq_getElem (by omega)]
    exact h _ (List.getElem_mem _)
  · exact ⟨by omega, by omega⟩
theorem MapInt.grown {w w' : World} {b n : Nat} {f : Int → Bool} {row : Option Nat} (h : MapInt w b n f) (hg : w.grownBy w' row) (hne : some b ≠ row) : MapInt w' b n f := by
  obtain ⟨D, hi, ho, ha⟩ := h
  exact ⟨D, hi, ho.kept hg hne, ha⟩
theorem infoI10 : (Tryz.prog.info? 3).map (fun i => (i.zero, i.size, i.bytes)) = some (some (.int .i64 0), 1, 8) := by kernel_rfl
def frR (ws : List Int) (s t f : Int) : List Int × Bool := frN (nxt ws t f) s (s.toNat + 1) (wGet ws 2 % 65536) []
def lenV : Value → Nat
  | .slice _ n _ => n
  | _ => 0
def FrIn (s : Int) (nx : Int → Int) (R : List Int × Bool) (w : World) (o i : Value) (wr : World) : Prop :=
  ∃ (x : Int) (l : List Int) (A : Option Addr) (c : Nat), o = .slice A l.length c ∧ i = .int .u64 x ∧ W64 x ∧ Nice s l ∧ frN nx s (s.toNat + 1 - l.length) x l = R ∧
    wr.ownsRow (w.heap.size + 1) 3 1 (.slice A l.length c) l.length (ints .i64 l) ∧ MapInt wr w.heap.size l.length (fun k => decide (k ∈ l)) ∧ w.heap.size + 1 ≤ wr.heap.size ∧ Below w.heap.size w wr
end Go.Proofs.YtlnckjemfabckaaGreatDoor

/-
  The list of free slots of a machine that begins: from 2 on.
-/
namespace Go.Proofs.YtlnckjemfabckaaGreatDoor
open Go.RowKit

/-- So many slots, from 2 on. -/
def rg2 (n : Nat) : List Int := (List.range n).map fun (i : Nat) => (i : Int) + 2
theorem rg2_len (n : Nat) : (rg2 n).length = n := by simp [rg2]
theorem rg2_succ (n : Nat) : rg2 (n + 1) = rg2 n ++ [(n : Int) + 2] := by simp [rg2, List.range_succ]
theorem rg2_mem (n : Nat) (x : Int) : x ∈ rg2 n ↔ 2 ≤ x ∧ x < (n : Int) + 2 := by
  simp only [rg2, List.mem_map, List.mem_range]
  constructor
  · rintro ⟨i, hi, rfl⟩
    omega
  · intro h
    exact ⟨(x - 2).toNat, by omega, by omega⟩
theorem beg_get {s t f a : Int} (h : 0 ≤ a ∧ a < laySize s t f) : wGet (begL s t f) a = begAt s t f a := by
  unfold wGet
  have hl := begL_len s t f
  rw [if_pos (by omega), begL_at (by omega)]
  rw [show ((a.toNat : Nat) : Int) = a by omega]
theorem beg_nxt {s t f k : Int} (hs : 1 ≤ s ∧ s ≤ 1000) (ht : 1 ≤ t ∧ t ≤ 64) (hf : 4 ≤ f ∧ f ≤ 64) (hk : 2 ≤ k ∧ k ≤ s) : nxt (begL s t f) t f k = if k < s then k + 1 else 0 := by
  unfold nxt
  have b := nB_bd hs ht hf (sl := k) (by omega)
  rw [beg_get (by omega)]
  have h2 := (at_or (t := t) (f := f) (j := nB t f k + 2) (k := k) (c := 2) (by omega) (by omega)).1 rfl
  have hp : nB t f k + 2 ≠ 2 := by
    have : 0 ≤ k * (3 + 2 * f) := Int.mul_nonneg (by omega) (by omega)
    unfold nB
    omega
  unfold begAt
  rw [if_neg hp]
  unfold bK bOR
  rw [h2.1, h2.2]
  repeat' split
  all_goals omega
theorem frN_beg {s t f : Int} (hs : 1 ≤ s ∧ s ≤ 1000) (ht : 1 ≤ t ∧ t ≤ 64) (hf : 4 ≤ f ∧ f ≤ 64) : ∀ (d m n : Nat), (m : Int) + 2 + d = s → d + 2 ≤ n → frN (nxt (begL s t f) t f) s n ((m : Int) + 2) (rg2 m) = (rg2 (m + d + 1), true)
  | 0, m, n, hm, hn => by
    obtain ⟨n, rfl⟩ : ∃ n', n = n' + 2 := ⟨n - 2, by omega⟩
    unfold frN
    rw [if_neg (by omega), if_neg (by rw [rg2_mem]; omega), beg_nxt hs ht hf (by omega), if_neg (by omega), ← rg2_succ]
    unfold frN
    rw [if_pos rfl]
  | d + 1, m, n, hm, hn => by
    obtain ⟨n, rfl⟩ : ∃ n', n = n' + 1 := ⟨n - 1, by omega⟩
    unfold frN
    rw [if_neg (by omega), if_neg (by rw [rg2_mem]; omega), beg_nxt hs ht hf (by omega), if_pos (by omega), ← rg2_succ]
    have h := frN_beg hs ht hf d (m + 1) n (by omega) (by omega)
    rw [show (m : Int) + 2 + 1 = ((m + 1 : Nat) : Int) + 2 by omega, h, show m + 1 + d + 1 = m + (d + 1) + 1 by omega]
theorem frR_beg {s t f : Int} (hs : 1 ≤ s ∧ s ≤ 1000) (ht : 1 ≤ t ∧ t ≤ 64) (hf : 4 ≤ f ∧ f ≤ 64) : frR (begL s t f) s t f = (rg2 (s - 1).toNat, true) := by
  unfold frR
  have hsp := size_pos hs ht hf
  rw [beg_get (by omega)]
  unfold begAt
  rw [if_pos rfl]
  by_cases h : 2 ≤ s
  · rw [if_pos h, show (2 : Int) % 65536 = ((0 : Nat) : Int) + 2 by rfl]
    have h := frN_beg hs ht hf (s - 2).toNat 0 (s.toNat + 1) (by omega) (by omega)
    rw [show 0 + (s - 2).toNat + 1 = (s - 1).toNat by omega, show rg2 0 = [] from rfl] at h
    exact h
  · rw [if_neg h, show (s - 1).toNat = 0 by omega]
    unfold frN
    rw [if_pos (by rfl)]
    rfl
end Go.Proofs.YtlnckjemfabckaaGreatDoor

/-
  arena.Root: the word at slot 0's first value.
-/
namespace Go.Proofs.YtlnckjemfabckaaGreatDoor
open Go.RowKit

set_option maxRecDepth 100000 in
set_option maxHeartbeats 1000000 in
theorem aroot_any (gm gw : Nat) (s t f l p : Int) (ws : List Int) (w : World) (hs : 1 ≤ s ∧ s ≤ 1000) (ht : 1 ≤ t ∧ t ≤ 64) (hf : 4 ≤ f ∧ f ≤ 64) (M : MemOk w gm gw s t f l p ws) :
    Calls Tryz.prog 101 #[.pointer (some ⟨gm, 0, none⟩)] w fun e w' => e = .returned (.int .u64 (wGet ws (nB t f 0 + 3 + f))) ∧ Below w.heap.size w w' := by
  have C := hide (fun w2 => lval_any s t f l p 0 0 w2 hs ht hf)
  rw [atpB_10 (by omega) (by omega), show nB t f 0 + 3 + f + 0 = nB t f 0 + 3 + f by omega] at C
  have WD := hide (fun w2 (h : MemOk w2 gm gw s t f l p ws) => word_any gm gw s t f l p (nB t f 0 + 3 + f) ws w2 h)
  have HM := hide M
  obtain ⟨m0, m1, m2, m3, m4⟩ := mem5 M
  generalize nB t f 0 + 3 + f = a at *
  clear M
  go_enter Tryz.func101, Tryz.ntmps101
  go_wp2_with fail
  refine (C.out _).mono ?_
  rintro e w1 ⟨rfl, hb⟩
  go_wp2_with fail
  refine (WD.out _ (HM.out.below hb)).mono ?_
  rintro e w2 ⟨rfl, rfl⟩
  go_wp2_with fail
  go_ret
  exact ⟨rfl, hb⟩
theorem beg_root {s t f : Int} (hs : 1 ≤ s ∧ s ≤ 1000) (ht : 1 ≤ t ∧ t ≤ 64) (hf : 4 ≤ f ∧ f ≤ 64) : wGet (begL s t f) (nB t f 0 + 3 + f) = 65537 := by
  have b := nB_bd hs ht hf (sl := 0) (by omega)
  rw [beg_get (by omega)]
  have h2 := (at_or (t := t) (f := f) (j := nB t f 0 + 3 + f) (k := 0) (c := 3 + f) (by omega) (by omega)).1 (by omega)
  have hp : nB t f 0 + 3 + f ≠ 2 := by unfold nB; omega
  unfold begAt
  rw [if_neg hp]
  unfold bK bOR
  rw [h2.1, h2.2]
  repeat' split
  all_goals omega
end Go.Proofs.YtlnckjemfabckaaGreatDoor

/-
  arena.row of no words.
-/
namespace Go.Proofs.YtlnckjemfabckaaGreatDoor
open Go.RowKit

def RowZ (w : World) (o i : Value) (wr : World) : Prop := o = .slice none 0 0 ∧ i = .int .i64 0 ∧ w = wr
set_option maxRecDepth 100000 in
set_option maxHeartbeats 1000000 in
theorem arow_zero (m fv : Value) (w : World) :
    Calls Tryz.prog 80 #[m, .int .i64 0, fv] w fun e w' => e = .returned (.slice none 0 0) ∧ w = w' := by
  go_enter Tryz.func80, Tryz.ntmps80
  go_wp2_with fail
  go_loopw [7, 10] (RowZ w) (fun _ _ _ => 0)
  case atStart => exact ⟨rfl, rfl, rfl⟩
  case round =>
    obtain ⟨rfl, rfl, rfl⟩ := hrel
    go_wp2_with fail
    go_ret
    exact ⟨rfl, rfl⟩
end Go.Proofs.YtlnckjemfabckaaGreatDoor

/-
  arena.row over any closure that tells places; arena.Node's two closures.
-/
namespace Go.Proofs.YtlnckjemfabckaaGreatDoor
open Go.RowKit

/-- So many words, at places that a function tells. -/
def rowL (ws : List Int) (g : Nat → Int) (n : Nat) : List Int := (List.range n).map fun i => wGet ws (g i)
theorem rowL_succ (ws : List Int) (g : Nat → Int) (n : Nat) : rowL ws g (n + 1) = rowL ws g n ++ [wGet ws (g n)] := by simp [rowL, List.range_succ]
theorem rowL_len (ws : List Int) (g : Nat → Int) (n : Nat) : (rowL ws g n).length = n := by simp [rowL]
theorem rowL_congr {ws : List Int} {g g' : Nat → Int} {n : Nat} (h : ∀ i, i < n → g i = g' i) : rowL ws g n = rowL ws g' n := by
  unfold rowL
  exact List.map_congr_left fun i hi => by rw [h i (List.mem_range.1 hi)]
def RowG (ws : List Int) (g : Nat → Int) (n : Nat) (w : World) (o i : Value) (wr : World) : Prop :=
  ∃ (k : Nat) (A : Option Addr) (c : Nat), k ≤ n ∧ i = .int .i64 k ∧ o = .slice A k c ∧ wr.ownsRow w.heap.size 32 1 (.slice A k c) k (ints .u64 (rowL ws g k)) ∧ Below w.heap.size w wr
set_option maxRecDepth 100000 in
set_option maxHeartbeats 2000000 in
theorem arow_any (gm gw K : Nat) (s t f l p : Int) (ws : List Int) (n : Nat) (caps : Array Value) (g : Nat → Int) (w : World) (hn : n ≤ 64) (M : MemOk w gm gw s t f l p ws)
    (hcf : ∀ args w, (callFunc K args).run Tryz.prog w = .ok (.enter K args) w)
    (hK : ∀ (i : Nat) w2, i < n → Below w.heap.size w w2 → Calls Tryz.prog K (#[.int .i64 i] ++ caps) w2 fun e w' => e = .returned (.int .i64 (g i)) ∧ Below w2.heap.size w2 w') :
    Calls Tryz.prog 80 #[.pointer (some ⟨gm, 0, none⟩), .int .i64 n, .func (.func K) #[] caps] w fun e w' => (∃ A c, e = .returned (.slice A n c) ∧ w'.ownsRow w.heap.size 32 1 (.slice A n c) n (ints .u64 (rowL ws g n))) ∧ Below w.heap.size w w' := by
  obtain ⟨i0, hi0, hz0, hs0, hb0⟩ := info_parts infoU64
  have HK := hide hK
  have WD := hide (fun a w2 (h : MemOk w2 gm gw s t f l p ws) => word_any gm gw s t f l p a ws w2 h)
  have HM := hide M
  have HN := hide hn
  clear hK M hn
  go_enter Tryz.func80, Tryz.ntmps80
  go_wp2_with fail
  go_loopw [7, 10] (RowG ws g n w) (fun _ i _ => n - (intOf i).toNat)
  case atStart => exact ⟨0, none, 0, Nat.zero_le _, rfl, rfl, World.ownsRow_nil _ _ _ _, Below.refl _ _⟩
  case round =>
    obtain ⟨k, A, c, hk, rfl, rfl, ho, B⟩ := hrel
    by_cases hlt : k < n
    · have CK := hide (HK.out k wr hlt B)
      have hL := hide (rowL_succ ws g k)
      have hlk : k ≤ 4294967296 := by have := HN.out; omega
      have hlt2 : (k : Int) < (n : Int) := by omega
      have HB := hide B
      have h64 := HN.out
      have hkc := hide (show ((k + 1 : Nat) : Int) = (k : Int) + 1 by omega)
      have hll : (rowL ws g k).length = k := rowL_len ws g k
      generalize rowL ws g k = zs at *
      generalize g k = a at *
      go_wp2_with fail
      refine (CK.out).mono ?_
      rintro e w1 ⟨rfl, hb1⟩
      have ho1 := own_below ho hb1
      have B1 := B.trans (hb1.mono B.size)
      clear hb1 ho B
      go_wp2_with fail
      refine (WD.out _ _ (HM.out.below B1)).mono ?_
      rintro e w2 ⟨rfl, rfl⟩
      generalize wGet ws a = x at *
      have hsz := B1.size
      go_wp2_with (at_builtin
                   refine wpList_append_one rfl (.tmp 13) (.tmp 19) _ rfl w.heap.size 32 i0 _ 1 8 Tryz.underlying29 hi0 hz0 hs0 hb0 rfl (by omega) (by omega) (.slice A k c) k _ rfl (ho1.alloc (.cells #[.int .u64 x] 32)) w1.heap.size #[.int .u64 x] rfl (Blk.new _ _ _) rfl rfl hlk (by rw [World.size_alloc]; omega) ?_
                   intro A3 c3 w3 ho3 hg3 hat3
                   have B3 := below_appended (B1.alloc hsz (.cells #[.int .u64 x] 32)) (ho1.alloc (.cells #[.int .u64 x] 32)) hg3 (by omega) (by rw [World.size_alloc]; omega))
      go_roundw
      case measure => simp [intOf]; omega
      case rel => exact ⟨k + 1, A3, c3, by omega, by rw [hkc.out], rfl, by rw [hL.out, ints_append]; exact ho3, B3⟩
    · obtain rfl : k = n := by omega
      go_wp2_with fail
      go_ret
      exact ⟨⟨A, c, rfl, ho⟩, B⟩
end Go.Proofs.YtlnckjemfabckaaGreatDoor

/-
  Package leaf: rises, Right, spliced.
-/
namespace Go.Proofs.YtlnckjemfabckaaGreatDoor
open Go.RowKit

/-- Each word is greater than the one ahead. -/
def RiseTo (l : List Int) (m : Nat) : Prop := ∀ i, i + 1 < m → l.getD i 0 < l.getD (i + 1) 0
def riseB (l : List Int) : Bool := (List.range (l.length - 1)).all fun i => decide (l.getD i 0 < l.getD (i + 1) 0)
theorem riseB_iff (l : List Int) : riseB l = true ↔ RiseTo l l.length := by
  unfold riseB RiseTo
  simp only [List.all_eq_true, List.mem_range, decide_eq_true_eq]
  exact ⟨fun h i hi => h i (by omega), fun h i hi => h i (by omega)⟩
theorem riseB_no {l : List Int} {i : Nat} (h : i + 1 < l.length) (hx : ¬ l.getD i 0 < l.getD (i + 1) 0) : riseB l = false := by
  rw [Bool.eq_false_iff]
  intro e
  exact hx ((riseB_iff l).1 e i h)
theorem RiseTo.succ {l : List Int} {m : Nat} (h : RiseTo l m) (hx : l.getD (m - 1) 0 < l.getD m 0) (hm : 1 ≤ m) : RiseTo l (m + 1) := by
  intro i hi
  by_cases e : i + 1 = m
  · subst e
    simpa using hx
  · exact h i (by omega)
theorem riseTo_small {l : List Int} {m : Nat} (h : m ≤ 1) : RiseTo l m := fun i hi => by omega

def RisesIn (l : List Int) (w : World) (i : Value) (wr : World) : Prop :=
  ∃ k j : Nat, j = k + 1 ∧ i = .int .i64 (j : Int) ∧ (j ≤ l.length → RiseTo l j) ∧ (l.length ≤ j → RiseTo l l.length) ∧ k ≤ l.length ∧ Below w.heap.size w wr

/-- A node's value. -/
def Nd (w : World) (B : Nat) (v : Value) (b : Bool) (ks vs : List Int) (l : Int) : Prop := ∃ k u, v = .agg #[.bool b, k, u, .int .u64 l] ∧ Sl w B k ks ∧ Sl w B u vs
theorem Nd.below {w w' : World} {B : Nat} {v : Value} {b : Bool} {ks vs : List Int} {l : Int} (h : Nd w B v b ks vs l) (hb : Below B w w') : Nd w' B v b ks vs l := by
  obtain ⟨k, u, h1, h2, h3⟩ := h
  exact ⟨k, u, h1, h2.below hb, h3.below hb⟩
theorem Nd.more {w : World} {B B' : Nat} {v : Value} {b : Bool} {ks vs : List Int} {l : Int} (h : Nd w B v b ks vs l) (hB : B ≤ B') : Nd w B' v b ks vs l := by
  obtain ⟨k, u, h1, h2, h3⟩ := h
  exact ⟨k, u, h1, h2.more hB, h3.more hB⟩
theorem Nd.zero (w : World) (B : Nat) : Nd w B (.agg #[.bool false, .slice none 0 0, .slice none 0 0, .int .u64 0]) false [] [] 0 := ⟨_, _, rfl, Sl.nil _ _, Sl.nil _ _⟩

def rightB (b : Bool) (ks vs : List Int) : Bool := !b && ks.length == vs.length && riseB ks

end Go.Proofs.YtlnckjemfabckaaGreatDoor

/-
  Package seek and its reference: a search is kind, low, high, key.
-/
namespace Go.Proofs.YtlnckjemfabckaaGreatDoor
open Go.RowKit

def swant (lo hi : Int) : Int := if hi ≤ lo then -1 else lo + (hi - lo) / 2
def spass (kind key k : Int) : Bool := if kind = 1 then decide (k < key) else decide (k ≤ key)
def slo (kind lo hi key k : Int) : Int := if hi ≤ lo then lo else if spass kind key k = true then lo + (hi - lo) / 2 + 1 else lo
def shi (kind lo hi key k : Int) : Int := if hi ≤ lo then hi else if spass kind key k = true then hi else lo + (hi - lo) / 2
def snew (kind n : Int) : Int := if n < 0 ∨ kind < 1 ∨ 2 < kind then 0 else n

/-- What a search's ends are. -/
def SOk (lo hi : Int) : Prop := 0 ≤ lo ∧ lo ≤ hi ∧ hi ≤ 9223372036854775807

theorem SOk.next {kind lo hi key k : Int} (h : SOk lo hi) : SOk (slo kind lo hi key k) (shi kind lo hi key k) := by
  obtain ⟨h1, h2, h3⟩ := h
  unfold slo shi SOk
  by_cases c : hi ≤ lo
  · rw [if_pos c, if_pos c]; exact ⟨h1, h2, h3⟩
  · rw [if_neg c, if_neg c]
    by_cases d : spass kind key k = true
    · rw [if_pos d, if_pos d]; omega
    · rw [if_neg d, if_neg d]; omega
theorem snew_ok (kind n : Int) (h : I64 n) : SOk 0 (snew kind n) := by
  obtain ⟨h1, h2⟩ := h
  unfold snew SOk
  split <;> omega

end Go.Proofs.YtlnckjemfabckaaGreatDoor

/-
  How many bits a word has.
-/
namespace Go.Proofs.YtlnckjemfabckaaGreatDoor

/-- How many bits a word has. -/
def wid (x : Nat) : Nat := if x = 0 then 0 else Nat.log2 x + 1
theorem wid_of {x k : Nat} (h1 : x < 2 ^ k) (h2 : k = 0 ∨ 2 ^ (k - 1) ≤ x) : wid x = k := by
  unfold wid
  by_cases hx : x = 0
  · rw [if_pos hx]
    rcases h2 with h2 | h2
    · exact h2.symm
    · have := Nat.two_pow_pos (k - 1); omega
  · rw [if_neg hx]
    have a := (Nat.log2_lt hx).2 h1
    rcases h2 with h2 | h2
    · subst h2; simp at h1; omega
    · have b := (Nat.le_log2 hx).2 h2
      omega
theorem wid_mod_succ (x k : Nat) : wid (x % 2 ^ (k + 1)) = if x / 2 ^ k % 2 = 1 then k + 1 else wid (x % 2 ^ k) := by
  have hp := Nat.two_pow_pos k
  have e : x % 2 ^ (k + 1) = x % 2 ^ k + 2 ^ k * (x / 2 ^ k % 2) := by
    rw [Nat.pow_succ, Nat.mod_mul]
  have hl := Nat.mod_lt x hp
  rcases Nat.mod_two_eq_zero_or_one (x / 2 ^ k) with h | h
  · rw [e, h, if_neg (by omega)]; simp
  · rw [if_pos h]
    apply wid_of
    · exact Nat.mod_lt _ (Nat.two_pow_pos _)
    · right
      rw [e, h]
      simp
theorem wid_le {x k : Nat} (h : x < 2 ^ k) : wid x ≤ k := by
  unfold wid
  by_cases hx : x = 0
  · rw [if_pos hx]; omega
  · rw [if_neg hx]
    have a := (Nat.log2_lt hx).2 h
    omega

end Go.Proofs.YtlnckjemfabckaaGreatDoor

/-
  seek.Steps, the reference's Took.
-/
namespace Go.Proofs.YtlnckjemfabckaaGreatDoor
open Go.RowKit

def steps (n : Int) : Int := if n < 1 then 0 else wid n.toNat
def StepsIn (x : Nat) (v n : Value) : Prop := ∃ k : Nat, n = .int .i64 k ∧ k ≤ 64 ∧ v = .int .i64 ((x / 2 ^ k : Nat) : Int) ∧ (k = 0 ∨ 2 ^ (k - 1) ≤ x)

end Go.Proofs.YtlnckjemfabckaaGreatDoor

/-
  seek.Of: where a search among keys comes.
-/
namespace Go.Proofs.YtlnckjemfabckaaGreatDoor
open Go.RowKit

/-- Where a search comes that is told keys; f: so many steps at most. -/
def sgo (kind key : Int) (l : List Int) : Nat → Int → Int → Int
  | 0, lo, _ => lo
  | f + 1, lo, hi => if hi ≤ lo then lo else sgo kind key l f (slo kind lo hi key (l.getD (lo + (hi - lo) / 2).toNat 0)) (shi kind lo hi key (l.getD (lo + (hi - lo) / 2).toNat 0))

theorem s_less {kind lo hi key k : Int} (h : SOk lo hi) (hlt : lo < hi) : (shi kind lo hi key k - slo kind lo hi key k).toNat < (hi - lo).toNat ∧ shi kind lo hi key k ≤ hi := by
  obtain ⟨h1, h2, h3⟩ := h
  unfold slo shi
  have c : ¬ hi ≤ lo := by omega
  rw [if_neg c, if_neg c]
  by_cases d : spass kind key k = true
  · rw [if_pos d, if_pos d]; omega
  · rw [if_neg d, if_neg d]; omega

def sfind (kind key : Int) (l : List Int) : Int := sgo kind key l l.length 0 (snew kind l.length)

end Go.Proofs.YtlnckjemfabckaaGreatDoor

/-
  Searches among keys that rise: the plain law.
-/
namespace Go.Proofs.YtlnckjemfabckaaGreatDoor
open Go.RowKit

def SortedTo (l : List Int) (k : Nat) : Prop := ∀ i j, i ≤ j → j < k → l.getD i 0 ≤ l.getD j 0

theorem spass_mono {kind key a b : Int} (h : spass kind key b = true) (hab : a ≤ b) : spass kind key a = true := by
  unfold spass at *
  split at h <;> simp_all <;> omega

theorem filter_prefix {p : Int → Bool} : ∀ {l : List Int} {m : Nat}, m ≤ l.length → (∀ i, i < m → p (l.getD i 0) = true) → (∀ i, m ≤ i → i < l.length → p (l.getD i 0) = false) → (l.filter p).length = m
  | [], m, hm, _, _ => by simp at hm; simp [hm]
  | x :: l, 0, _, _, h2 => by
    have h0 : p x = false := by simpa using h2 0 (by omega) (by simp)
    rw [List.filter_cons_of_neg (by simp [h0])]
    exact filter_prefix (m := 0) (by omega) (fun i hi => by omega) (fun i _ hi => by simpa using h2 (i + 1) (by omega) (by simpa using hi))
  | x :: l, m + 1, hm, h1, h2 => by
    have h0 : p x = true := by simpa using h1 0 (by omega)
    rw [List.filter_cons_of_pos h0, List.length_cons]
    congr 1
    exact filter_prefix (m := m) (by simpa using hm) (fun i hi => by simpa using h1 (i + 1) (by omega)) (fun i hi hl => by simpa using h2 (i + 1) (by omega) (by simpa using hl))

theorem sgo_count {kind key : Int} {l : List Int} (hs : SortedTo l l.length) : ∀ (f : Nat) (lo hi : Int), SOk lo hi → hi ≤ l.length → (hi - lo).toNat ≤ f →
    (∀ i, i < lo.toNat → spass kind key (l.getD i 0) = true) → (∀ i, hi.toNat ≤ i → i < l.length → spass kind key (l.getD i 0) = false) → sgo kind key l f lo hi = (l.filter (spass kind key)).length
  | f, lo, hi, hok, hl, hf, h1, h2 => by
    obtain ⟨a1, a2, a3⟩ := hok
    by_cases c : hi ≤ lo
    · have e : sgo kind key l f lo hi = lo := by cases f with
        | zero => rfl
        | succ f => exact if_pos c
      rw [e, filter_prefix (m := lo.toNat) (by omega) h1 (fun i hi' => h2 i (by omega))]
      omega
    · cases f with
      | zero => omega
      | succ f =>
        show (if hi ≤ lo then lo else _) = _
        rw [if_neg c]
        have hless := s_less (kind := kind) (key := key) (k := l.getD (lo + (hi - lo) / 2).toNat 0) ⟨a1, a2, a3⟩ (by omega)
        refine sgo_count hs f _ _ (SOk.next ⟨a1, a2, a3⟩) (by omega) (by omega) (fun i hi' => ?_) (fun i hi' hil => ?_)
        · unfold slo at hi'
          rw [if_neg c] at hi'
          by_cases d : spass kind key (l.getD (lo + (hi - lo) / 2).toNat 0) = true
          · rw [if_pos d] at hi'
            exact spass_mono d (hs i _ (by omega) (by omega))
          · rw [if_neg d] at hi'
            exact h1 i hi'
        · unfold shi at hi'
          rw [if_neg c] at hi'
          by_cases d : spass kind key (l.getD (lo + (hi - lo) / 2).toNat 0) = true
          · rw [if_pos d] at hi'
            exact h2 i hi' hil
          · rw [if_neg d] at hi'
            rcases hb : spass kind key (l.getD i 0) with _ | _
            · rfl
            · exact absurd (spass_mono hb (hs _ i (by omega) hil)) d

theorem sfind_count {kind key : Int} {l : List Int} (hs : SortedTo l l.length) (hl : l.length ≤ 1000) : sfind kind key l = if kind = 1 ∨ kind = 2 then ((l.filter (spass kind key)).length : Int) else 0 := by
  unfold sfind
  by_cases c : kind = 1 ∨ kind = 2
  · rw [if_pos c]
    have e : snew kind l.length = l.length := if_neg (by omega)
    rw [e]
    exact sgo_count hs _ _ _ ⟨by omega, by omega, by omega⟩ (by omega) (by omega) (fun i hi => by simp at hi) (fun i h1 h2 => by omega)
  · rw [if_neg c]
    have e : snew kind l.length = 0 := if_pos (by omega)
    rw [e]
    cases l.length <;> rfl
end Go.Proofs.YtlnckjemfabckaaGreatDoor

/-
  Leaves, plainly: where a key stands among keys that rise.
-/
namespace Go.Proofs.YtlnckjemfabckaaGreatDoor
open Go.RowKit

def lowN (key : Int) (l : List Int) : Nat := (l.filter fun k => decide (k < key)).length
def hasB (key : Int) (l : List Int) : Bool := l.any fun k => k == key
theorem lowN_le (key : Int) (l : List Int) : lowN key l ≤ l.length := List.length_filter_le _ _

theorem rise_lt {l : List Int} {m : Nat} (h : RiseTo l m) : ∀ (d i : Nat), i + d + 1 < m → l.getD i 0 < l.getD (i + d + 1) 0
  | 0, i, hi => h i hi
  | d + 1, i, hi => by
    have h1 := rise_lt h d i (by omega)
    have h2 := h (i + d + 1) (by omega)
    rw [show i + (d + 1) + 1 = i + d + 1 + 1 by omega]
    omega
theorem rise_lt' {l : List Int} {m i j : Nat} (h : RiseTo l m) (hij : i < j) (hj : j < m) : l.getD i 0 < l.getD j 0 := by
  have := rise_lt h (j - i - 1) i (by omega)
  rwa [show i + (j - i - 1) + 1 = j by omega] at this
theorem sorted_of_rise {l : List Int} {m : Nat} (h : RiseTo l m) : SortedTo l m := by
  intro i j hij hj
  rcases Nat.lt_or_ge i j with hl | hl
  · exact Int.le_of_lt (rise_lt' h hl hj)
  · obtain rfl : i = j := by omega
    exact Int.le_refl _
theorem find_count {key : Int} {l : List Int} (h : riseB l = true) (hl : l.length ≤ 1000) : sfind 1 key l = lowN key l := by
  rw [sfind_count (sorted_of_rise ((riseB_iff l).1 h)) hl, if_pos (.inl rfl)]
  congr 2
/-- Keys ahead of the place are below, the others are not. -/
theorem low_spec {key : Int} {l : List Int} (h : riseB l = true) : (∀ i, i < lowN key l → l.getD i 0 < key) ∧ (∀ i, lowN key l ≤ i → i < l.length → key ≤ l.getD i 0) := by
  have hr := (riseB_iff l).1 h
  have hs := sorted_of_rise hr
  -- the number of keys below is some place m with the two properties
  have hex : ∃ m, m ≤ l.length ∧ (∀ i, i < m → l.getD i 0 < key) ∧ (∀ i, m ≤ i → i < l.length → key ≤ l.getD i 0) := by
    clear hr h
    suffices H : ∀ n, n ≤ l.length → (∀ i, n ≤ i → i < l.length → key ≤ l.getD i 0) → ∃ m, m ≤ l.length ∧ (∀ i, i < m → l.getD i 0 < key) ∧ (∀ i, m ≤ i → i < l.length → key ≤ l.getD i 0) from
      H l.length (Nat.le_refl _) (fun i h1 h2 => by omega)
    intro n
    induction n with
    | zero => exact fun _ h => ⟨0, by omega, fun i hi => by omega, h⟩
    | succ n ih =>
      intro hn h
      by_cases c : l.getD n 0 < key
      · exact ⟨n + 1, hn, fun i hi => by have := hs i n (by omega) (by omega); omega, h⟩
      · refine ih (by omega) fun i h1 h2 => ?_
        rcases Nat.eq_or_lt_of_le h1 with rfl | h3
        · omega
        · exact h i h3 h2
  obtain ⟨m, hm, h1, h2⟩ := hex
  have e : lowN key l = m := filter_prefix hm (fun i hi => by simpa using h1 i hi) (fun i h3 h4 => by simpa using h2 i h3 h4)
  rw [e]
  exact ⟨h1, h2⟩
theorem has_iff {key : Int} {l : List Int} (h : riseB l = true) : hasB key l = (decide (lowN key l < l.length) && (l.getD (lowN key l) 0 == key)) := by
  obtain ⟨h1, h2⟩ := low_spec (key := key) h
  have hr := (riseB_iff l).1 h
  rw [Bool.eq_iff_iff]
  unfold hasB
  simp only [List.any_eq_true, beq_iff_eq, Bool.and_eq_true, decide_eq_true_eq]
  constructor
  · rintro ⟨x, hx, rfl⟩
    obtain ⟨j, hj, rfl⟩ := List.getElem_of_mem hx
    have ej : l.getD j 0 = l[j] := by simp [List.getD, hj]
    have hge : lowN l[j] l ≤ j := by
      rcases Nat.lt_or_ge j (lowN l[j] l) with c | c
      · have := h1 j c
        omega
      · exact c
    have hlt : lowN l[j] l < l.length := by omega
    refine ⟨hlt, ?_⟩
    have h3 := h2 (lowN l[j] l) (Nat.le_refl _) hlt
    rcases Nat.eq_or_lt_of_le hge with c | c
    · rw [c]
      exact ej
    · have := rise_lt' hr c hj
      omega
  · rintro ⟨hlt, he⟩
    refine ⟨l[lowN key l], List.getElem_mem hlt, ?_⟩
    simpa [List.getD, hlt] using he
end Go.Proofs.YtlnckjemfabckaaGreatDoor

/-
  Package leaf: Find, spliced, cut, joined, fit.
-/
namespace Go.Proofs.YtlnckjemfabckaaGreatDoor
open Go.RowKit

def findN (b : Bool) (ks vs : List Int) (key : Int) : Nat := if rightB b ks vs = true then lowN key ks else 0
def findB (b : Bool) (ks vs : List Int) (key : Int) : Bool := rightB b ks vs && hasB key ks
theorem rightB_rise {b : Bool} {ks vs : List Int} (h : rightB b ks vs = true) : riseB ks = true := by
  unfold rightB at h
  simp only [Bool.and_eq_true] at h
  exact h.2

theorem reads3 {w : World} {g : Nat} {t : TypeId} {cs : List Value} {n : Nat} (h : Blk w g t cs.toArray) (hn : cs.length = n) : Reads w (g + 1) 1 (some ⟨g, 0, none⟩) n cs := by
  have := Reads.blk h n 1 (by simp [hn])
  simpa using this

end Go.Proofs.YtlnckjemfabckaaGreatDoor

/-
  Package leaf: cut, joined, fit.
-/
namespace Go.Proofs.YtlnckjemfabckaaGreatDoor
open Go.RowKit

/-- A node's value whose lists lie in blocks from lo on. -/
def NdO (w : World) (lo : Nat) (v : Value) (b : Bool) (ks vs : List Int) (l : Int) : Prop := ∃ k u, v = .agg #[.bool b, k, u, .int .u64 l] ∧ Own w lo k ks ∧ Own w lo u vs
theorem NdO.below {w w' : World} {lo : Nat} {v : Value} {b : Bool} {ks vs : List Int} {l : Int} (h : NdO w lo v b ks vs l) (hb : Below w.heap.size w w') : NdO w' lo v b ks vs l := by
  obtain ⟨k, u, h1, h2, h3⟩ := h
  exact ⟨k, u, h1, h2.below hb, h3.below hb⟩
theorem NdO.mono {w : World} {lo lo' : Nat} {v : Value} {b : Bool} {ks vs : List Int} {l : Int} (h : NdO w lo v b ks vs l) (hl : lo' ≤ lo) : NdO w lo' v b ks vs l := by
  obtain ⟨k, u, h1, h2, h3⟩ := h
  exact ⟨k, u, h1, h2.mono hl, h3.mono hl⟩
theorem NdO.nd {w : World} {lo : Nat} {v : Value} {b : Bool} {ks vs : List Int} {l : Int} (h : NdO w lo v b ks vs l) : Nd w w.heap.size v b ks vs l := by
  obtain ⟨k, u, h1, h2, h3⟩ := h
  exact ⟨k, u, h1, h2.sl, h3.sl⟩
theorem NdO.far {w : World} {lo : Nat} {v : Value} {b : Bool} {ks vs : List Int} {l : Int} (h : NdO w lo v b ks vs l) {p : Addr} (hp : p.block < lo) (q : Value) : NdO (w.setCell p q) lo v b ks vs l := by
  obtain ⟨k, u, h1, h2, h3⟩ := h
  exact ⟨k, u, h1, h2.far hp q, h3.far hp q⟩
theorem NdO.val {w : World} {lo : Nat} {v : Value} {b : Bool} {ks vs : List Int} {l : Int} (h : NdO w lo v b ks vs l) : ∃ A c A' c', v = .agg #[.bool b, .slice A ks.length c, .slice A' vs.length c', .int .u64 l] := by
  obtain ⟨k, u, h1, h2, h3⟩ := h
  obtain ⟨A, c, rfl⟩ := h2.val
  obtain ⟨A', c', rfl⟩ := h3.val
  exact ⟨A, c, A', c', h1⟩

theorem Blk.far4 {w : World} {g : Nat} {t : TypeId} {cs : Array Value} (h : Blk w g t cs) {g' : Nat} (hg : g ≠ g') (a b c d : Value) : Blk ((((w.setCell ⟨g', 0, none⟩ a).setCell ⟨g', 1, none⟩ b).setCell ⟨g', 2, none⟩ c).setCell ⟨g', 3, none⟩ d) g t cs :=
  (((h.far (p := ⟨g', 0, none⟩) hg a).far (p := ⟨g', 1, none⟩) hg b).far (p := ⟨g', 2, none⟩) hg c).far (p := ⟨g', 3, none⟩) hg d

end Go.Proofs.YtlnckjemfabckaaGreatDoor

/-
  Package leaf: joined, fit.
-/
namespace Go.Proofs.YtlnckjemfabckaaGreatDoor
open Go.RowKit

theorem Own.alloc {w : World} {lo : Nat} {v : Value} {xs : List Int} (h : Own w lo v xs) (o : Obj) : Own (w.alloc o) lo v xs := h.below ((Below.refl _ _).alloc (Nat.le_refl _) o)
theorem reads2 {w : World} {g B : Nat} {x y : Value} (h0 : w.cell? ⟨g, 0, none⟩ = some x) (h1 : w.cell? ⟨g, 1, none⟩ = some y) (hg : g < B) : Reads w B 1 (some ⟨g, 0, none⟩) 2 [x, y] := by
  refine ⟨rfl, fun _ => ⟨_, rfl, hg, fun j u hu => ?_⟩⟩
  rw [Addr.add_lit]
  match j, hu with
  | 0, hu => simpa [h0] using hu
  | 1, hu => simpa [h1] using hu
  | j + 2, hu => simp at hu

end Go.Proofs.YtlnckjemfabckaaGreatDoor

/-
  A node that grows word by word: what an append to one of its lists leaves of the rest.
-/
namespace Go.Proofs.YtlnckjemfabckaaGreatDoor
open Go.RowKit

theorem own_old {w : World} {B : Nat} {e : TypeId} {s n g : Nat} {xs : List Value} {v : Value} (h : w.ownsRow B e s v n xs) (hg : w.heap.size ≤ g) : some g ≠ v.ownBlock := fun e' => by
  have := (h.lt g e'.symm).2
  omega
/-- What an append to the row v leaves of another row, and of a block. -/
theorem push_row {w w' : World} {lo : Nat} {e : TypeId} {s m : Nat} {ys : List Value} {v u v' : Value} (h2 : w.ownsRow lo e s u m ys) (ha : Apart v u) (hgr : w.grownBy w' v.ownBlock) (hat : v'.ownBlock = v.ownBlock ∨ v'.ownBlock = some w.heap.size) :
    w'.ownsRow lo e s u m ys ∧ Apart v' u := ⟨own_kept h2 hgr ha, ha.grown h2 hat⟩
theorem Nd.of_rows {w : World} {lo : Nat} {b : Bool} {l : Int} {A1 A2 : Option Addr} {c1 c2 : Nat} {ks vs : List Int} (h1 : w.ownsRow lo 32 1 (.slice A1 ks.length c1) ks.length (ints .u64 ks)) (h2 : w.ownsRow lo 32 1 (.slice A2 vs.length c2) vs.length (ints .u64 vs)) :
    NdO w lo (.agg #[.bool b, .slice A1 ks.length c1, .slice A2 vs.length c2, .int .u64 l]) b ks vs l := ⟨_, _, rfl, h1, h2⟩
theorem cellsN {w : World} {g : Nat} {T : TypeId} {c0 c1 c2 c3 : Value} (h : Blk w g T #[c0, c1, c2, c3]) : w.cell? ⟨g, 0, none⟩ = some c0 ∧ w.cell? ⟨g, 1, none⟩ = some c1 ∧ w.cell? ⟨g, 2, none⟩ = some c2 ∧ w.cell? ⟨g, 3, none⟩ = some c3 := ⟨h.cell 0, h.cell 1, h.cell 2, h.cell 3⟩
theorem cellsP {w : World} {g : Nat} {T : TypeId} {c0 c1 : Value} (h : Blk w g T #[c0, c1]) : w.cell? ⟨g, 0, none⟩ = some c0 ∧ w.cell? ⟨g, 1, none⟩ = some c1 := ⟨h.cell 0, h.cell 1⟩
theorem Blk.setK {w : World} {g : Nat} {t : TypeId} {a b c d : Value} (h : Blk w g t #[a, b, c, d]) (x : Value) : Blk (w.setCell ⟨g, 1, none⟩ x) g t #[a, x, c, d] := by
  have b9 := h.set_ 1 x
  simpa only [List.setIfInBounds_toArray, List.set_cons_zero, List.set_cons_succ] using b9
theorem Blk.setV {w : World} {g : Nat} {t : TypeId} {a b c d : Value} (h : Blk w g t #[a, b, c, d]) (x : Value) : Blk (w.setCell ⟨g, 2, none⟩ x) g t #[a, b, x, d] := by
  have b9 := h.set_ 2 x
  simpa only [List.setIfInBounds_toArray, List.set_cons_zero, List.set_cons_succ] using b9
theorem Blk.setN {w : World} {g : Nat} {t : TypeId} {a b c d : Value} (h : Blk w g t #[a, b, c, d]) (x y z u : Value) : Blk ((((w.setCell ⟨g, 0, none⟩ x).setCell ⟨g, 1, none⟩ y).setCell ⟨g, 2, none⟩ z).setCell ⟨g, 3, none⟩ u) g t #[x, y, z, u] := by
  have b9 := (((h.set_ 0 x).set_ 1 y).set_ 2 z).set_ 3 u
  simpa only [List.setIfInBounds_toArray, List.set_cons_zero, List.set_cons_succ] using b9
theorem below_setN {B : Nat} {a w : World} (h : Below B a w) {g : Nat} (hg : B ≤ g) (x y z u : Value) : Below B a ((((w.setCell ⟨g, 0, none⟩ x).setCell ⟨g, 1, none⟩ y).setCell ⟨g, 2, none⟩ z).setCell ⟨g, 3, none⟩ u) :=
  (((h.setCell (p := ⟨g, 0, none⟩) hg x).setCell (p := ⟨g, 1, none⟩) hg y).setCell (p := ⟨g, 2, none⟩) hg z).setCell (p := ⟨g, 3, none⟩) hg u
theorem NdO.farN {w : World} {lo : Nat} {v : Value} {b : Bool} {ks vs : List Int} {l : Int} (h : NdO w lo v b ks vs l) {g : Nat} (hg : g < lo) (x y z u : Value) : NdO ((((w.setCell ⟨g, 0, none⟩ x).setCell ⟨g, 1, none⟩ y).setCell ⟨g, 2, none⟩ z).setCell ⟨g, 3, none⟩ u) lo v b ks vs l :=
  (((h.far (p := ⟨g, 0, none⟩) hg x).far (p := ⟨g, 1, none⟩) hg y).far (p := ⟨g, 2, none⟩) hg z).far (p := ⟨g, 3, none⟩) hg u
theorem own_farN {w : World} {B g : Nat} {e : TypeId} {s n : Nat} {xs : List Value} {v : Value} (h : w.ownsRow B e s v n xs) (hg : g < B) (x y z u : Value) : ((((w.setCell ⟨g, 0, none⟩ x).setCell ⟨g, 1, none⟩ y).setCell ⟨g, 2, none⟩ z).setCell ⟨g, 3, none⟩ u).ownsRow B e s v n xs :=
  own_setCell_far (own_setCell_far (own_setCell_far (own_setCell_far h (p := ⟨g, 0, none⟩) hg x) (p := ⟨g, 1, none⟩) hg y) (p := ⟨g, 2, none⟩) hg z) (p := ⟨g, 3, none⟩) hg u
/-- The keys, the values of pairs. -/
def fstL (l : List (Int × Int)) : List Int := l.map Prod.fst
def sndL (l : List (Int × Int)) : List Int := l.map Prod.snd
theorem fstL_len (l : List (Int × Int)) : (fstL l).length = l.length := by simp [fstL]
theorem sndL_len (l : List (Int × Int)) : (sndL l).length = l.length := by simp [sndL]
theorem fstL_take (l : List (Int × Int)) (k : Nat) (h : k < l.length) : fstL (l.take (k + 1)) = fstL (l.take k) ++ [l[k].1] := by unfold fstL; rw [take_snoc' l k h, List.map_append]; rfl
theorem sndL_take (l : List (Int × Int)) (k : Nat) (h : k < l.length) : sndL (l.take (k + 1)) = sndL (l.take k) ++ [l[k].2] := by unfold sndL; rw [take_snoc' l k h, List.map_append]; rfl
theorem right_pairs (l : List (Int × Int)) : rightB false (fstL l) (sndL l) = riseB (fstL l) := by
  unfold rightB
  simp [fstL_len, sndL_len]
end Go.Proofs.YtlnckjemfabckaaGreatDoor

/-
  arena.Node of any slot.
-/
namespace Go.Proofs.YtlnckjemfabckaaGreatDoor
open Go.RowKit Go.Shelf

theorem own_setT {w : World} {B g : Nat} {e T : TypeId} {s n : Nat} {xs : List Value} {v : Value} {cs : Array Value} (h : w.ownsRow B e s v n xs) (hb : Blk w g T cs) (hne : e ≠ T) (f : Nat) (u : Value) : (w.setCell ⟨g, f, none⟩ u).ownsRow B e s v n xs :=
  h.kept (grown_set w g f u) (.inr (own_blk_ne h hb hne))
theorem cell_old {w w' : World} {q : Addr} {v : Value} (hb : Below w.heap.size w w') (h : w.cell? q = some v) : w'.cell? q = some v := by
  have hlt : q.block < w.heap.size := by
    unfold World.cell? at h
    cases ho : w.heap[q.block]? with
    | none => simp [ho] at h
    | some o => exact (Array.getElem?_eq_some_iff.1 ho).1
  exact (hb.cell hlt).trans h
set_option maxRecDepth 100000 in
set_option maxHeartbeats 4000000 in
theorem akey1_any (gm gw bm0 bs0 : Nat) (s t f l p k i : Int) (ws : List Int) (w : World) (hs : 1 ≤ s ∧ s ≤ 1000) (ht : 1 ≤ t ∧ t ≤ 64) (hf : 4 ≤ f ∧ f ≤ 64) (hk : 0 ≤ k ∧ k ≤ s) (hi : 0 ≤ i ∧ i < f) (M : MemOk w gm gw s t f l p ws)
    (bm : w.cell? ⟨bm0, 0, none⟩ = some (.pointer (some ⟨gm, 0, none⟩))) (bs : w.cell? ⟨bs0, 0, none⟩ = some (.int .i64 k)) :
    Calls Tryz.prog 81 #[.int .i64 i, .pointer (some ⟨bm0, 0, none⟩), .pointer (some ⟨bs0, 0, none⟩)] w fun e w' => e = .returned (.int .i64 (nB t f k + 3 + i)) ∧ Below w.heap.size w w' := by
  have C := hide (fun w2 => lkey_any s t f l p k i w2 hs ht hf)
  rw [atpB_9 hk hi] at C
  obtain ⟨m0, m1, m2, m3, m4⟩ := mem5 M
  generalize nB t f k + 3 + i = r at *
  clear hi hk hs ht hf M
  have B := Below.refl w.heap.size w
  go_enter Tryz.func81, Tryz.ntmps81
  go_wp2_with fail
  refine wp_region_heldZ [] (fun w' => w'.cell? ⟨bm0, 0, none⟩ = some (.pointer (some ⟨gm, 0, none⟩)) ∧ w'.cell? ⟨bs0, 0, none⟩ = some (.int .i64 k) ∧ w'.cell? ⟨gm, 0, none⟩ = some (.int .i64 s) ∧ w'.cell? ⟨gm, 1, none⟩ = some (.int .i64 t) ∧ w'.cell? ⟨gm, 2, none⟩ = some (.int .i64 f) ∧ w'.cell? ⟨gm, 3, none⟩ = some (.int .i64 l) ∧ w'.cell? ⟨gm, 4, none⟩ = some (.int .i64 p)) (by kernel_rfl) (by exact ⟨bm, bs, m0, m1, m2, m3, m4⟩) (fun hHeld => ?_)
  refine' wpAnyZ_takeA (i := 0) (v := ?_) (opAt rfl) (by kernel_rfl) (by kernel_rfl) (by kernel_rfl) (by kernel_rfl) (fun _ _ _ h => h) (by assumption) (by rfl) (fun w hSw => ?_) ?_
  rotate_left
  · (try dsimp only at hSw); go_simp; (try with_reducible rfl)
  try simp only [Act.put, List.setIfInBounds_toArray, List.set_cons_zero, List.set_cons_succ]
  refine' wpAnyZ_takeA (i := 1) (v := ?_) (opAt rfl) (by kernel_rfl) (by kernel_rfl) (by kernel_rfl) (by kernel_rfl) (fun _ _ _ h => h) (by assumption) (by rfl) (fun w hSw => ?_) ?_
  rotate_left
  · (try dsimp only at hSw); go_simp; (try with_reducible rfl)
  try simp only [Act.put, List.setIfInBounds_toArray, List.set_cons_zero, List.set_cons_succ]
  refine' wpAnyZ_takeA (i := 2) (v := ?_) (opAt rfl) (by kernel_rfl) (by kernel_rfl) (by kernel_rfl) (by kernel_rfl) (fun _ _ _ h => h) (by assumption) (by rfl) (fun w hSw => ?_) ?_
  rotate_left
  · (try dsimp only at hSw); go_simp; (try with_reducible rfl)
  try simp only [Act.put, List.setIfInBounds_toArray, List.set_cons_zero, List.set_cons_succ]
  refine' wpAnyZ_takeA (i := 3) (v := ?_) (opAt rfl) (by kernel_rfl) (by kernel_rfl) (by kernel_rfl) (by kernel_rfl) (fun _ _ _ h => h) (by assumption) (by rfl) (fun w hSw => ?_) ?_
  rotate_left
  · (try dsimp only at hSw); go_simp; (try with_reducible rfl)
  try simp only [Act.put, List.setIfInBounds_toArray, List.set_cons_zero, List.set_cons_succ]
  refine' wpAnyZ_takeA (i := 4) (v := ?_) (opAt rfl) (by kernel_rfl) (by kernel_rfl) (by kernel_rfl) (by kernel_rfl) (fun _ _ _ h => h) (by assumption) (by rfl) (fun w hSw => ?_) ?_
  rotate_left
  · (try dsimp only at hSw); go_simp; (try with_reducible rfl)
  try simp only [Act.put, List.setIfInBounds_toArray, List.set_cons_zero, List.set_cons_succ]
  refine' wpAnyZ_takeA (i := 5) (v := ?_) (opAt rfl) (by kernel_rfl) (by kernel_rfl) (by kernel_rfl) (by kernel_rfl) (fun _ _ _ h => h) (by assumption) (by rfl) (fun w hSw => ?_) ?_
  rotate_left
  · (try dsimp only at hSw); go_simp; (try with_reducible rfl)
  try simp only [Act.put, List.setIfInBounds_toArray, List.set_cons_zero, List.set_cons_succ]
  refine wpAnyZ_ready (rs := [6]) (by kernel_rfl) (by simp) ?_
  refine AllReadyZ.cons (opAt rfl) (fun K hK => ?_) ?_
  · skip
    go_simp
    refine (C.out _).mono ?_
    rintro e w1 ⟨rfl, hb1⟩
    have hc := fun (q : Addr) v (h : w.drew.cell? q = some v) => cell_old hb1 h
    replace bm := hc _ _ bm
    replace bs := hc _ _ bs
    replace m0 := hc _ _ m0
    replace m1 := hc _ _ m1
    replace m2 := hc _ _ m2
    replace m3 := hc _ _ m3
    replace m4 := hc _ _ m4
    clear hc
    replace B := B.drew.trans (hb1.mono B.drew.size)
    clear hb1
    try go_wp2_with fail
    refine hK.out _ _ (by exact ⟨bm, bs, m0, m1, m2, m3, m4⟩) (fun hHeld => ?_)
    clear hK K
    try simp only [Act.put, List.setIfInBounds_toArray, List.set_cons_zero, List.set_cons_succ]
    refine' wpAnyZ_takeA (i := 7) (v := ?_) (opAt rfl) (by kernel_rfl) (by kernel_rfl) (by kernel_rfl) (by kernel_rfl) (fun _ _ _ h => h) (by assumption) (by rfl) (fun w hSw => ?_) ?_
    rotate_left
    · (try dsimp only at hSw); go_simp; (try with_reducible rfl)
    try simp only [Act.put, List.setIfInBounds_toArray, List.set_cons_zero, List.set_cons_succ]
    refine wpAnyZ_done (by kernel_rfl) ?_ _
    go_wp2_with fail
    go_ret
    exact ⟨rfl, B⟩
  exact AllReadyZ.nil
set_option maxRecDepth 100000 in
set_option maxHeartbeats 4000000 in
theorem aval1_any (gm gw bm0 bs0 : Nat) (s t f l p k i : Int) (ws : List Int) (w : World) (hs : 1 ≤ s ∧ s ≤ 1000) (ht : 1 ≤ t ∧ t ≤ 64) (hf : 4 ≤ f ∧ f ≤ 64) (hk : 0 ≤ k ∧ k ≤ s) (hi : 0 ≤ i ∧ i < f) (M : MemOk w gm gw s t f l p ws)
    (bm : w.cell? ⟨bm0, 0, none⟩ = some (.pointer (some ⟨gm, 0, none⟩))) (bs : w.cell? ⟨bs0, 0, none⟩ = some (.int .i64 k)) :
    Calls Tryz.prog 83 #[.int .i64 i, .pointer (some ⟨bm0, 0, none⟩), .pointer (some ⟨bs0, 0, none⟩)] w fun e w' => e = .returned (.int .i64 (nB t f k + 3 + f + i)) ∧ Below w.heap.size w w' := by
  have C := hide (fun w2 => lval_any s t f l p k i w2 hs ht hf)
  rw [atpB_10 hk hi] at C
  obtain ⟨m0, m1, m2, m3, m4⟩ := mem5 M
  generalize nB t f k + 3 + f + i = r at *
  clear hi hk hs ht hf M
  have B := Below.refl w.heap.size w
  go_enter Tryz.func83, Tryz.ntmps83
  go_wp2_with fail
  refine wp_region_heldZ [] (fun w' => w'.cell? ⟨bm0, 0, none⟩ = some (.pointer (some ⟨gm, 0, none⟩)) ∧ w'.cell? ⟨bs0, 0, none⟩ = some (.int .i64 k) ∧ w'.cell? ⟨gm, 0, none⟩ = some (.int .i64 s) ∧ w'.cell? ⟨gm, 1, none⟩ = some (.int .i64 t) ∧ w'.cell? ⟨gm, 2, none⟩ = some (.int .i64 f) ∧ w'.cell? ⟨gm, 3, none⟩ = some (.int .i64 l) ∧ w'.cell? ⟨gm, 4, none⟩ = some (.int .i64 p)) (by kernel_rfl) (by exact ⟨bm, bs, m0, m1, m2, m3, m4⟩) (fun hHeld => ?_)
  refine' wpAnyZ_takeA (i := 0) (v := ?_) (opAt rfl) (by kernel_rfl) (by kernel_rfl) (by kernel_rfl) (by kernel_rfl) (fun _ _ _ h => h) (by assumption) (by rfl) (fun w hSw => ?_) ?_
  rotate_left
  · (try dsimp only at hSw); go_simp; (try with_reducible rfl)
  try simp only [Act.put, List.setIfInBounds_toArray, List.set_cons_zero, List.set_cons_succ]
  refine' wpAnyZ_takeA (i := 1) (v := ?_) (opAt rfl) (by kernel_rfl) (by kernel_rfl) (by kernel_rfl) (by kernel_rfl) (fun _ _ _ h => h) (by assumption) (by rfl) (fun w hSw => ?_) ?_
  rotate_left
  · (try dsimp only at hSw); go_simp; (try with_reducible rfl)
  try simp only [Act.put, List.setIfInBounds_toArray, List.set_cons_zero, List.set_cons_succ]
  refine' wpAnyZ_takeA (i := 2) (v := ?_) (opAt rfl) (by kernel_rfl) (by kernel_rfl) (by kernel_rfl) (by kernel_rfl) (fun _ _ _ h => h) (by assumption) (by rfl) (fun w hSw => ?_) ?_
  rotate_left
  · (try dsimp only at hSw); go_simp; (try with_reducible rfl)
  try simp only [Act.put, List.setIfInBounds_toArray, List.set_cons_zero, List.set_cons_succ]
  refine' wpAnyZ_takeA (i := 3) (v := ?_) (opAt rfl) (by kernel_rfl) (by kernel_rfl) (by kernel_rfl) (by kernel_rfl) (fun _ _ _ h => h) (by assumption) (by rfl) (fun w hSw => ?_) ?_
  rotate_left
  · (try dsimp only at hSw); go_simp; (try with_reducible rfl)
  try simp only [Act.put, List.setIfInBounds_toArray, List.set_cons_zero, List.set_cons_succ]
  refine' wpAnyZ_takeA (i := 4) (v := ?_) (opAt rfl) (by kernel_rfl) (by kernel_rfl) (by kernel_rfl) (by kernel_rfl) (fun _ _ _ h => h) (by assumption) (by rfl) (fun w hSw => ?_) ?_
  rotate_left
  · (try dsimp only at hSw); go_simp; (try with_reducible rfl)
  try simp only [Act.put, List.setIfInBounds_toArray, List.set_cons_zero, List.set_cons_succ]
  refine' wpAnyZ_takeA (i := 5) (v := ?_) (opAt rfl) (by kernel_rfl) (by kernel_rfl) (by kernel_rfl) (by kernel_rfl) (fun _ _ _ h => h) (by assumption) (by rfl) (fun w hSw => ?_) ?_
  rotate_left
  · (try dsimp only at hSw); go_simp; (try with_reducible rfl)
  try simp only [Act.put, List.setIfInBounds_toArray, List.set_cons_zero, List.set_cons_succ]
  refine wpAnyZ_ready (rs := [6]) (by kernel_rfl) (by simp) ?_
  refine AllReadyZ.cons (opAt rfl) (fun K hK => ?_) ?_
  · skip
    go_simp
    refine (C.out _).mono ?_
    rintro e w1 ⟨rfl, hb1⟩
    have hc := fun (q : Addr) v (h : w.drew.cell? q = some v) => cell_old hb1 h
    replace bm := hc _ _ bm
    replace bs := hc _ _ bs
    replace m0 := hc _ _ m0
    replace m1 := hc _ _ m1
    replace m2 := hc _ _ m2
    replace m3 := hc _ _ m3
    replace m4 := hc _ _ m4
    clear hc
    replace B := B.drew.trans (hb1.mono B.drew.size)
    clear hb1
    try go_wp2_with fail
    refine hK.out _ _ (by exact ⟨bm, bs, m0, m1, m2, m3, m4⟩) (fun hHeld => ?_)
    clear hK K
    try simp only [Act.put, List.setIfInBounds_toArray, List.set_cons_zero, List.set_cons_succ]
    refine' wpAnyZ_takeA (i := 7) (v := ?_) (opAt rfl) (by kernel_rfl) (by kernel_rfl) (by kernel_rfl) (by kernel_rfl) (fun _ _ _ h => h) (by assumption) (by rfl) (fun w hSw => ?_) ?_
    rotate_left
    · (try dsimp only at hSw); go_simp; (try with_reducible rfl)
    try simp only [Act.put, List.setIfInBounds_toArray, List.set_cons_zero, List.set_cons_succ]
    refine wpAnyZ_done (by kernel_rfl) ?_ _
    go_wp2_with fail
    go_ret
    exact ⟨rfl, B⟩
  exact AllReadyZ.nil
theorem rowK_any (gm gw bb : Nat) (s t f l p k : Int) (ws : List Int) (n : Nat) (kn : Int) (wx : World) (hs : 1 ≤ s ∧ s ≤ 1000) (ht : 1 ≤ t ∧ t ≤ 64) (hf : 4 ≤ f ∧ f ≤ 64) (hk : 0 ≤ k ∧ k ≤ s) (hn : (n : Int) ≤ f) (hkn : kn = (n : Int)) (M : MemOk wx gm gw s t f l p ws) (bm : Blk wx bb 27 #[.pointer (some ⟨gm, 0, none⟩)]) (bs : Blk wx (bb + 1) 3 #[.int .i64 k]) :
    Calls Tryz.prog 80 #[.pointer (some ⟨gm, 0, none⟩), .int .i64 kn, .func (.func 81) #[] #[.pointer (some ⟨bb, 0, none⟩), .pointer (some ⟨bb + 1, 0, none⟩)]] wx fun e w' => (∃ A c, e = .returned (.slice A n c) ∧ w'.ownsRow wx.heap.size 32 1 (.slice A n c) n (ints .u64 (rowL ws (fun i => nB t f k + 3 + i) n))) ∧ Below wx.heap.size wx w' := by
  subst hkn
  exact arow_any gm gw 81 s t f l p ws n #[.pointer (some ⟨bb, 0, none⟩), .pointer (some ⟨bb + 1, 0, none⟩)] (fun i => nB t f k + 3 + i) wx (by omega) M (enters_of (P := Tryz.prog) Tryz.func81 (by kernel_rfl) rfl)
    (fun i w2 hi hb => akey1_any gm gw bb (bb + 1) s t f l p k i ws w2 hs ht hf hk ⟨by omega, by omega⟩ (M.below hb) (cell_old hb (bm.cell 0)) (cell_old hb (bs.cell 0)))
theorem rowV_any (gm gw bb : Nat) (s t f l p k : Int) (ws : List Int) (n : Nat) (kn : Int) (wx : World) (hs : 1 ≤ s ∧ s ≤ 1000) (ht : 1 ≤ t ∧ t ≤ 64) (hf : 4 ≤ f ∧ f ≤ 64) (hk : 0 ≤ k ∧ k ≤ s) (hn : (n : Int) ≤ f) (hkn : kn = (n : Int)) (M : MemOk wx gm gw s t f l p ws) (bm : Blk wx bb 27 #[.pointer (some ⟨gm, 0, none⟩)]) (bs : Blk wx (bb + 1) 3 #[.int .i64 k]) :
    Calls Tryz.prog 80 #[.pointer (some ⟨gm, 0, none⟩), .int .i64 kn, .func (.func 83) #[] #[.pointer (some ⟨bb, 0, none⟩), .pointer (some ⟨bb + 1, 0, none⟩)]] wx fun e w' => (∃ A c, e = .returned (.slice A n c) ∧ w'.ownsRow wx.heap.size 32 1 (.slice A n c) n (ints .u64 (rowL ws (fun i => nB t f k + 3 + f + i) n))) ∧ Below wx.heap.size wx w' := by
  subst hkn
  exact arow_any gm gw 83 s t f l p ws n #[.pointer (some ⟨bb, 0, none⟩), .pointer (some ⟨bb + 1, 0, none⟩)] (fun i => nB t f k + 3 + f + i) wx (by omega) M (enters_of (P := Tryz.prog) Tryz.func83 (by kernel_rfl) rfl)
    (fun i w2 hi hb => aval1_any gm gw bb (bb + 1) s t f l p k i ws w2 hs ht hf hk ⟨by omega, by omega⟩ (M.below hb) (cell_old hb (bm.cell 0)) (cell_old hb (bs.cell 0)))
end Go.Proofs.YtlnckjemfabckaaGreatDoor

/-
  arena.Node of any slot: what its words tell.
-/
namespace Go.Proofs.YtlnckjemfabckaaGreatDoor
open Go.RowKit Go.Shelf

/-- What a slot's words tell: inner, how many entries, keys, values, link. -/
def nodI (ws : List Int) (t f k : Int) : Bool := innB (wGet ws (nB t f k + 1))
def nodN (ws : List Int) (t f k : Int) : Nat := (ents (wGet ws (nB t f k + 1)) f).toNat
def nodKn (ws : List Int) (t f k : Int) : Nat := if nodI ws t f k = true then nodN ws t f k - 1 else nodN ws t f k
def nodK (ws : List Int) (t f k : Int) : List Int := rowL ws (fun i => nB t f k + 3 + i) (nodKn ws t f k)
def nodV (ws : List Int) (t f k : Int) : List Int := rowL ws (fun i => nB t f k + 3 + f + i) (nodN ws t f k)
def nodL (ws : List Int) (t f k : Int) : Int := wGet ws (nB t f k + 2)
theorem ents_bd {x f : Int} (hx : W64 x) (hf : 4 ≤ f ∧ f ≤ 64) : 0 ≤ ents x f ∧ ents x f ≤ f := by
  obtain ⟨h0, h1⟩ := hx
  unfold ents
  split <;> (try split) <;> omega
theorem nodN_le {ws : List Int} {t f k : Int} (h64 : AllW64 ws) (hf : 4 ≤ f ∧ f ≤ 64) : (nodN ws t f k : Int) ≤ f := by
  have := ents_bd (wGet_w64 h64 (nB t f k + 1)) hf
  unfold nodN
  omega
theorem nodN_eq {ws : List Int} {t f k : Int} (h64 : AllW64 ws) (hf : 4 ≤ f ∧ f ≤ 64) : ents (wGet ws (nB t f k + 1)) f = (nodN ws t f k : Int) := by
  have := ents_bd (wGet_w64 h64 (nB t f k + 1)) hf
  unfold nodN
  omega
theorem nodKn_le (ws : List Int) (t f k : Int) : nodKn ws t f k ≤ nodN ws t f k := by
  unfold nodKn
  split <;> omega
/-- Behind the making of the node. -/
structure After5 (gm gw gx b : Nat) (s t f l p k : Int) (ws : List Int) (inn : Bool) (lk : Int) (w wx : World) : Prop where
  bn : Blk wx gx 82 #[.bool inn, .slice none 0 0, .slice none 0 0, .int .u64 lk]
  M : MemOk wx gm gw s t f l p ws
  bm : Blk wx b 27 #[.pointer (some ⟨gm, 0, none⟩)]
  bs : Blk wx (b + 1) 3 #[.int .i64 k]
  bx : Blk wx (b + 1 + 1) 82 #[.bool false, .slice none 0 0, .slice none 0 0, .int .u64 0]
  B : Below w.heap.size w wx
  g1 : gm ≠ gx ∧ gw ≠ gx
  g2 : b + 1 + 1 < gx
set_option maxRecDepth 100000 in
set_option maxHeartbeats 4000000 in
theorem anode_no (gm gw : Nat) (s t f l p k : Int) (ws : List Int) (w : World) (hs : 1 ≤ s ∧ s ≤ 1000) (ht : 1 ≤ t ∧ t ≤ 64) (hf : 4 ≤ f ∧ f ≤ 64) (hk : k < 0 ∨ s < k) (M : MemOk w gm gw s t f l p ws) :
    Calls Tryz.prog 40 #[.pointer (some ⟨gm, 0, none⟩), .int .i64 k] w fun e w' => e = .returned (.agg #[.bool false, .slice none 0 0, .slice none 0 0, .int .u64 0]) ∧ Below w.heap.size w w' := by
  have CV := hide (fun w2 => lver_any s t f l p k w2 hs ht hf)
  rw [atpB_6no hk] at CV
  clear hs ht hf hk
  have bm := Blk.new w 27 #[.pointer (some ⟨gm, 0, none⟩)]
  have bs := Blk.new (w.alloc (.cells #[.pointer (some ⟨gm, 0, none⟩)] 27)) 3 #[.int .i64 k]
  have bx := Blk.new ((w.alloc (.cells #[.pointer (some ⟨gm, 0, none⟩)] 27)).alloc (.cells #[.int .i64 k] 3)) 82 #[.bool false, .slice none 0 0, .slice none 0 0, .int .u64 0]
  have B := (Below.refl w.heap.size w).alloc (Nat.le_refl _) (.cells #[.pointer (some ⟨gm, 0, none⟩)] 27)
  replace B := B.alloc B.size (.cells #[.int .i64 k] 3)
  replace B := B.alloc B.size (.cells #[.bool false, .slice none 0 0, .slice none 0 0, .int .u64 0] 82)
  replace bm := (bm.alloc (.cells #[.int .i64 k] 3)).alloc (.cells #[.bool false, .slice none 0 0, .slice none 0 0, .int .u64 0] 82)
  replace bs := bs.alloc (.cells #[.bool false, .slice none 0 0, .slice none 0 0, .int .u64 0] 82)
  simp only [World.size_alloc] at bs bx
  replace M := M.below B
  go_enter Tryz.func40, Tryz.ntmps40
  go_wp2_with fail
  generalize ((w.alloc (.cells #[.pointer (some ⟨gm, 0, none⟩)] 27)).alloc (.cells #[.int .i64 k] 3)).alloc (.cells #[.bool false, .slice none 0 0, .slice none 0 0, .int .u64 0] 82) = w0 at *
  obtain ⟨b, hb⟩ : ∃ b, b = w.heap.size := ⟨_, rfl⟩
  rw [← hb] at bm bs bx ⊢
  have HBE := hide hb
  clear hb
  refine wp_region_heldZ [] (fun w' => w'.cell? ⟨b, 0, none⟩ = some (.pointer (some ⟨gm, 0, none⟩)) ∧ w'.cell? ⟨b + 1, 0, none⟩ = some (.int .i64 k) ∧ w'.cell? ⟨gm, 0, none⟩ = some (.int .i64 s) ∧ w'.cell? ⟨gm, 1, none⟩ = some (.int .i64 t) ∧ w'.cell? ⟨gm, 2, none⟩ = some (.int .i64 f) ∧ w'.cell? ⟨gm, 3, none⟩ = some (.int .i64 l) ∧ w'.cell? ⟨gm, 4, none⟩ = some (.int .i64 p)) (by kernel_rfl) (by exact ⟨bm.cell 0, bs.cell 0, mem5 M⟩) (fun hHeld => ?_)
  replace M := M.drew
  replace bm := bm.drew
  replace bs := bs.drew
  replace bx := bx.drew
  replace B := B.drew
  generalize w0.drew = w0x at *
  refine' wpAnyZ_takeA (i := 0) (v := ?_) (opAt rfl) (by kernel_rfl) (by kernel_rfl) (by kernel_rfl) (by kernel_rfl) (fun _ _ _ h => h) (by assumption) (by rfl) (fun w hSw => ?_) ?_
  rotate_left
  · (try dsimp only at hSw); go_simp; (try with_reducible rfl)
  try simp only [Act.put, List.setIfInBounds_toArray, List.set_cons_zero, List.set_cons_succ]
  refine' wpAnyZ_takeA (i := 1) (v := ?_) (opAt rfl) (by kernel_rfl) (by kernel_rfl) (by kernel_rfl) (by kernel_rfl) (fun _ _ _ h => h) (by assumption) (by rfl) (fun w hSw => ?_) ?_
  rotate_left
  · (try dsimp only at hSw); go_simp; (try with_reducible rfl)
  try simp only [Act.put, List.setIfInBounds_toArray, List.set_cons_zero, List.set_cons_succ]
  refine' wpAnyZ_takeA (i := 2) (v := ?_) (opAt rfl) (by kernel_rfl) (by kernel_rfl) (by kernel_rfl) (by kernel_rfl) (fun _ _ _ h => h) (by assumption) (by rfl) (fun w hSw => ?_) ?_
  rotate_left
  · (try dsimp only at hSw); go_simp; (try with_reducible rfl)
  try simp only [Act.put, List.setIfInBounds_toArray, List.set_cons_zero, List.set_cons_succ]
  refine' wpAnyZ_takeA (i := 3) (v := ?_) (opAt rfl) (by kernel_rfl) (by kernel_rfl) (by kernel_rfl) (by kernel_rfl) (fun _ _ _ h => h) (by assumption) (by rfl) (fun w hSw => ?_) ?_
  rotate_left
  · (try dsimp only at hSw); go_simp; (try with_reducible rfl)
  try simp only [Act.put, List.setIfInBounds_toArray, List.set_cons_zero, List.set_cons_succ]
  refine' wpAnyZ_takeA (i := 4) (v := ?_) (opAt rfl) (by kernel_rfl) (by kernel_rfl) (by kernel_rfl) (by kernel_rfl) (fun _ _ _ h => h) (by assumption) (by rfl) (fun w hSw => ?_) ?_
  rotate_left
  · (try dsimp only at hSw); go_simp; (try with_reducible rfl)
  try simp only [Act.put, List.setIfInBounds_toArray, List.set_cons_zero, List.set_cons_succ]
  refine' wpAnyZ_takeA (i := 5) (v := ?_) (opAt rfl) (by kernel_rfl) (by kernel_rfl) (by kernel_rfl) (by kernel_rfl) (fun _ _ _ h => h) (by assumption) (by rfl) (fun w hSw => ?_) ?_
  rotate_left
  · (try dsimp only at hSw); go_simp; (try with_reducible rfl)
  try simp only [Act.put, List.setIfInBounds_toArray, List.set_cons_zero, List.set_cons_succ]
  refine' wpAnyZ_takeA (i := 6) (v := ?_) (opAt rfl) (by kernel_rfl) (by kernel_rfl) (by kernel_rfl) (by kernel_rfl) (fun _ _ _ h => h) (by assumption) (by rfl) (fun w hSw => ?_) ?_
  rotate_left
  · (try dsimp only at hSw); go_simp; (try with_reducible rfl)
  try simp only [Act.put, List.setIfInBounds_toArray, List.set_cons_zero, List.set_cons_succ]
  refine' wpAnyZ_takeA (i := 7) (v := ?_) (opAt rfl) (by kernel_rfl) (by kernel_rfl) (by kernel_rfl) (by kernel_rfl) (fun _ _ _ h => h) (by assumption) (by rfl) (fun w hSw => ?_) ?_
  rotate_left
  · (try dsimp only at hSw); go_simp; (try with_reducible rfl)
  try simp only [Act.put, List.setIfInBounds_toArray, List.set_cons_zero, List.set_cons_succ]
  refine wpAnyZ_ready (rs := [8]) (by kernel_rfl) (by simp) ?_
  refine AllReadyZ.cons (opAt rfl) (fun K hK => ?_) ?_
  · skip
    go_simp
    refine (CV.out _).mono ?_
    rintro e w1 ⟨rfl, hb1⟩
    replace M := M.below hb1
    replace bm := bm.below hb1 bm.lt
    replace bs := bs.below hb1 bs.lt
    replace bx := bx.below hb1 bx.lt
    replace B := B.trans (hb1.mono B.size)
    clear hb1
    try go_wp2_with fail
    refine hK.out _ _ (by exact ⟨bm.cell 0, bs.cell 0, mem5 M⟩) (fun hHeld => ?_)
    clear hK K
    try simp only [Act.put, List.setIfInBounds_toArray, List.set_cons_zero, List.set_cons_succ]
    refine' wpAnyZ_takeA (i := 9) (v := ?_) (opAt rfl) (by kernel_rfl) (by kernel_rfl) (by kernel_rfl) (by kernel_rfl) (fun _ _ _ h => h) (by assumption) (by rfl) (fun w hSw => ?_) ?_
    rotate_left
    · (try dsimp only at hSw); go_simp; (try with_reducible rfl)
    try simp only [Act.put, List.setIfInBounds_toArray, List.set_cons_zero, List.set_cons_succ]
    refine' wpAnyZ_takeA (i := 10) (v := ?_) (opAt rfl) (by kernel_rfl) (by kernel_rfl) (by kernel_rfl) (by kernel_rfl) (fun _ _ _ h => h) (by assumption) (by rfl) (fun w hSw => ?_) ?_
    rotate_left
    · (try dsimp only at hSw); go_simp; (try with_reducible rfl)
    try simp only [Act.put, List.setIfInBounds_toArray, List.set_cons_zero, List.set_cons_succ]
    refine wpAnyZ_done (by kernel_rfl) ?_ _
    have zx := fun j => bx.frozen j
    have mx := fun j => bx.cell j
    go_wp2_with fail
    have p9 := (((bx.set_ 0 (.bool false)).set_ 1 (.slice none 0 0)).set_ 2 (.slice none 0 0)).set_ 3 (.int .u64 0)
    have m9 := fun j => p9.cell j
    have C9 := B.setCell (p := ⟨b + 1 + 1, 0, none⟩) (by have h2 := HBE.out; show w.heap.size ≤ b + 1 + 1; omega) (.bool false)
    replace C9 := C9.setCell (p := ⟨b + 1 + 1, 1, none⟩) (by have h2 := HBE.out; show w.heap.size ≤ b + 1 + 1; omega) (.slice none 0 0)
    replace C9 := C9.setCell (p := ⟨b + 1 + 1, 2, none⟩) (by have h2 := HBE.out; show w.heap.size ≤ b + 1 + 1; omega) (.slice none 0 0)
    replace C9 := C9.setCell (p := ⟨b + 1 + 1, 3, none⟩) (by have h2 := HBE.out; show w.heap.size ≤ b + 1 + 1; omega) (.int .u64 0)
    refine bodyPost_ret (v := .agg #[.bool false, .slice none 0 0, .slice none 0 0, .int .u64 0]) (by simp [results, Tryz.results40, go_sem, m9, List.setIfInBounds_toArray]) rfl ⟨rfl, by first | exact C9 | exact C9.drew⟩
  exact AllReadyZ.nil
set_option maxRecDepth 100000 in
set_option maxHeartbeats 1000000 in
theorem anode_nil (k : Int) (w : World) :
    Calls Tryz.prog 40 #[.pointer none, .int .i64 k] w fun e w' => e = .returned (.agg #[.bool false, .slice none 0 0, .slice none 0 0, .int .u64 0]) ∧ Below w.heap.size w w' := by
  have bm := Blk.new w 27 #[.pointer none]
  have bs := Blk.new (w.alloc (.cells #[.pointer none] 27)) 3 #[.int .i64 k]
  have bx := Blk.new ((w.alloc (.cells #[.pointer none] 27)).alloc (.cells #[.int .i64 k] 3)) 82 #[.bool false, .slice none 0 0, .slice none 0 0, .int .u64 0]
  have B := (Below.refl w.heap.size w).alloc (Nat.le_refl _) (.cells #[.pointer none] 27)
  replace B := B.alloc B.size (.cells #[.int .i64 k] 3)
  replace B := B.alloc B.size (.cells #[.bool false, .slice none 0 0, .slice none 0 0, .int .u64 0] 82)
  replace bm := (bm.alloc (.cells #[.int .i64 k] 3)).alloc (.cells #[.bool false, .slice none 0 0, .slice none 0 0, .int .u64 0] 82)
  replace bs := bs.alloc (.cells #[.bool false, .slice none 0 0, .slice none 0 0, .int .u64 0] 82)
  simp only [World.size_alloc] at bs bx
  go_enter Tryz.func40, Tryz.ntmps40
  go_wp2_with fail
  generalize ((w.alloc (.cells #[.pointer none] 27)).alloc (.cells #[.int .i64 k] 3)).alloc (.cells #[.bool false, .slice none 0 0, .slice none 0 0, .int .u64 0] 82) = w0 at *
  obtain ⟨b, hb⟩ : ∃ b, b = w.heap.size := ⟨_, rfl⟩
  rw [← hb] at bm bs bx ⊢
  have HBE := hide hb
  clear hb
  refine wp_region_heldZ [] (fun w' => w'.cell? ⟨b, 0, none⟩ = some (.pointer none) ∧ w'.cell? ⟨b + 1, 0, none⟩ = some (.int .i64 k)) (by kernel_rfl) (by exact ⟨bm.cell 0, bs.cell 0⟩) (fun hHeld => ?_)
  replace bm := bm.drew
  replace bs := bs.drew
  replace bx := bx.drew
  replace B := B.drew
  generalize w0.drew = w0x at *
  refine' wpAnyZ_takeA (i := 0) (v := ?_) (opAt rfl) (by kernel_rfl) (by kernel_rfl) (by kernel_rfl) (by kernel_rfl) (fun _ _ _ h => h) (by assumption) (by rfl) (fun w hSw => ?_) ?_
  rotate_left
  · (try dsimp only at hSw); go_simp; (try with_reducible rfl)
  try simp only [Act.put, List.setIfInBounds_toArray, List.set_cons_zero, List.set_cons_succ]
  refine' wpAnyZ_takeA (i := 1) (v := ?_) (opAt rfl) (by kernel_rfl) (by kernel_rfl) (by kernel_rfl) (by kernel_rfl) (fun _ _ _ h => h) (by assumption) (by rfl) (fun w hSw => ?_) ?_
  rotate_left
  · (try dsimp only at hSw); go_simp; (try with_reducible rfl)
  try simp only [Act.put, List.setIfInBounds_toArray, List.set_cons_zero, List.set_cons_succ]
  refine' wpAnyZ_takeA (i := 2) (v := ?_) (opAt rfl) (by kernel_rfl) (by kernel_rfl) (by kernel_rfl) (by kernel_rfl) (fun _ _ _ h => h) (by assumption) (by rfl) (fun w hSw => ?_) ?_
  rotate_left
  · (try dsimp only at hSw); go_simp; (try with_reducible rfl)
  try simp only [Act.put, List.setIfInBounds_toArray, List.set_cons_zero, List.set_cons_succ]
  refine' wpAnyZ_skipA (i := 3) _ rfl (opAt rfl) (by kernel_rfl) (by kernel_rfl) (by kernel_rfl) (by kernel_rfl) (fun _ _ _ h => h) (by assumption) (by rfl) ?_
  try simp only [Act.put, List.setIfInBounds_toArray, List.set_cons_zero, List.set_cons_succ]
  refine' wpAnyZ_skipA (i := 4) _ rfl (opAt rfl) (by kernel_rfl) (by kernel_rfl) (by kernel_rfl) (by kernel_rfl) (fun _ _ _ h => h) (by assumption) (by rfl) ?_
  try simp only [Act.put, List.setIfInBounds_toArray, List.set_cons_zero, List.set_cons_succ]
  refine' wpAnyZ_skipA (i := 5) _ rfl (opAt rfl) (by kernel_rfl) (by kernel_rfl) (by kernel_rfl) (by kernel_rfl) (fun _ _ _ h => h) (by assumption) (by rfl) ?_
  try simp only [Act.put, List.setIfInBounds_toArray, List.set_cons_zero, List.set_cons_succ]
  refine' wpAnyZ_skipA (i := 6) _ rfl (opAt rfl) (by kernel_rfl) (by kernel_rfl) (by kernel_rfl) (by kernel_rfl) (fun _ _ _ h => h) (by assumption) (by rfl) ?_
  try simp only [Act.put, List.setIfInBounds_toArray, List.set_cons_zero, List.set_cons_succ]
  refine' wpAnyZ_skipA (i := 7) _ rfl (opAt rfl) (by kernel_rfl) (by kernel_rfl) (by kernel_rfl) (by kernel_rfl) (fun _ _ _ h => h) (by assumption) (by rfl) ?_
  try simp only [Act.put, List.setIfInBounds_toArray, List.set_cons_zero, List.set_cons_succ]
  refine' wpAnyZ_skipA (i := 8) _ rfl (opAt rfl) (by kernel_rfl) (by kernel_rfl) (by kernel_rfl) (by kernel_rfl) (fun _ _ _ h => h) (by assumption) (by rfl) ?_
  try simp only [Act.put, List.setIfInBounds_toArray, List.set_cons_zero, List.set_cons_succ]
  refine' wpAnyZ_skipA (i := 9) _ rfl (opAt rfl) (by kernel_rfl) (by kernel_rfl) (by kernel_rfl) (by kernel_rfl) (fun _ _ _ h => h) (by assumption) (by rfl) ?_
  try simp only [Act.put, List.setIfInBounds_toArray, List.set_cons_zero, List.set_cons_succ]
  refine' wpAnyZ_takeA (i := 10) (v := ?_) (opAt rfl) (by kernel_rfl) (by kernel_rfl) (by kernel_rfl) (by kernel_rfl) (fun _ _ _ h => h) (by assumption) (by rfl) (fun w hSw => ?_) ?_
  rotate_left
  · (try dsimp only at hSw); go_simp; (try with_reducible rfl)
  try simp only [Act.put, List.setIfInBounds_toArray, List.set_cons_zero, List.set_cons_succ]
  refine wpAnyZ_done (by kernel_rfl) ?_ _
  have zx := fun j => bx.frozen j
  have mx := fun j => bx.cell j
  go_wp2_with fail
  have p9 := (((bx.set_ 0 (.bool false)).set_ 1 (.slice none 0 0)).set_ 2 (.slice none 0 0)).set_ 3 (.int .u64 0)
  have m9 := fun j => p9.cell j
  have C9 := B.setCell (p := ⟨b + 1 + 1, 0, none⟩) (by have h2 := HBE.out; show w.heap.size ≤ b + 1 + 1; omega) (.bool false)
  replace C9 := C9.setCell (p := ⟨b + 1 + 1, 1, none⟩) (by have h2 := HBE.out; show w.heap.size ≤ b + 1 + 1; omega) (.slice none 0 0)
  replace C9 := C9.setCell (p := ⟨b + 1 + 1, 2, none⟩) (by have h2 := HBE.out; show w.heap.size ≤ b + 1 + 1; omega) (.slice none 0 0)
  replace C9 := C9.setCell (p := ⟨b + 1 + 1, 3, none⟩) (by have h2 := HBE.out; show w.heap.size ≤ b + 1 + 1; omega) (.int .u64 0)
  refine bodyPost_ret (v := .agg #[.bool false, .slice none 0 0, .slice none 0 0, .int .u64 0]) (by simp [results, Tryz.results40, go_sem, m9, List.setIfInBounds_toArray]) rfl ⟨rfl, by first | exact C9 | exact C9.drew⟩
set_option maxRecDepth 100000 in
set_option maxHeartbeats 4000000 in
theorem anode_yes (gm gw : Nat) (s t f l p k : Int) (ws : List Int) (w : World) (hs : 1 ≤ s ∧ s ≤ 1000) (ht : 1 ≤ t ∧ t ≤ 64) (hf : 4 ≤ f ∧ f ≤ 64) (hk : 0 ≤ k ∧ k ≤ s) (M : MemOk w gm gw s t f l p ws) (h64 : AllW64 ws) :
    Calls Tryz.prog 40 #[.pointer (some ⟨gm, 0, none⟩), .int .i64 k] w fun e w' => (∃ v, e = .returned v ∧ NdO w' w.heap.size v (nodI ws t f k) (nodK ws t f k) (nodV ws t f k) (nodL ws t f k)) ∧ Below w.heap.size w w' := by
  have b := nB_bd hs ht hf hk
  have CV := hide (fun w2 => lver_any s t f l p k w2 hs ht hf)
  have CS := hide (fun w2 => lshp_any s t f l p k w2 hs ht hf)
  have CN := hide (fun w2 => llnk_any s t f l p k w2 hs ht hf)
  rw [atpB_6 hk] at CV
  rw [atpB_7 hk] at CS
  rw [atpB_8 hk] at CN
  have W1 := hide (fun w2 (h : MemOk w2 gm gw s t f l p ws) => word_any gm gw s t f l p (nB t f k + 1) ws w2 h)
  have W2 := hide (fun w2 (h : MemOk w2 gm gw s t f l p ws) => word_any gm gw s t f l p (nB t f k + 2) ws w2 h)
  have CC := hide (fun w2 => lconfig_any s t f l p w2)
  have EN := hide (fun w2 => entries_any (wGet ws (nB t f k + 1)) f w2 (wGet_w64 h64 _) ⟨by omega, by omega⟩)
  rw [nodN_eq h64 hf] at EN
  have IN := hide (fun w2 => inner_any (wGet ws (nB t f k + 1)) w2 (wGet_w64 h64 _))
  rw [show innB (wGet ws (nB t f k + 1)) = nodI ws t f k from rfl] at IN
  rw [show wGet ws (nB t f k + 2) = nodL ws t f k from rfl] at W2
  have hNf := nodN_le (t := t) (k := k) h64 hf
  have RK := hide (fun (bb n : Nat) (kn : Int) (hn : n ≤ nodN ws t f k) (hkn : kn = (n : Int)) (wx : World) (M : MemOk wx gm gw s t f l p ws) (bm : Blk wx bb 27 #[.pointer (some ⟨gm, 0, none⟩)]) (bs : Blk wx (bb + 1) 3 #[.int .i64 k]) => rowK_any gm gw bb s t f l p k ws n kn wx hs ht hf hk (by omega) hkn M bm bs)
  have RV := hide (fun (bb n : Nat) (kn : Int) (hn : n ≤ nodN ws t f k) (hkn : kn = (n : Int)) (wx : World) (M : MemOk wx gm gw s t f l p ws) (bm : Blk wx bb 27 #[.pointer (some ⟨gm, 0, none⟩)]) (bs : Blk wx (bb + 1) 3 #[.int .i64 k]) => rowV_any gm gw bb s t f l p k ws n kn wx hs ht hf hk (by omega) hkn M bm bs)
  have hf2 : ∀ w : World, (Instr.field 23 (.agg #[.int .i64 s, .int .i64 t, .int .i64 f, .int .i64 l, .int .i64 p]) 2).run Tryz.prog w = .ok (.int .i64 f) w := fun _ => by kernel_rfl
  have d1 : decide (nB t f k < 0) = false := by rw [decide_eq_false_iff_not]; omega
  have HKE := hide (show nodK ws t f k = rowL ws (fun i => nB t f k + 3 + i) (nodKn ws t f k) from rfl)
  have HVE := hide (show nodV ws t f k = rowL ws (fun i => nB t f k + 3 + f + i) (nodN ws t f k) from rfl)
  have HNK := hide (show nodKn ws t f k = if nodI ws t f k = true then nodN ws t f k - 1 else nodN ws t f k from rfl)
  generalize wGet ws (nB t f k + 1) = x1 at *
  generalize nB t f k + 1 = a1 at *
  generalize nB t f k + 2 = a2 at *
  generalize nodI ws t f k = inn at *
  generalize nodN ws t f k = N at *
  generalize nodL ws t f k = lk at *
  generalize nodKn ws t f k = NK at *
  generalize nodK ws t f k = ks at *
  generalize nodV ws t f k = vs at *
  generalize (fun i : Nat => nB t f k + 3 + f + (i : Int)) = gv at *
  generalize (fun i : Nat => nB t f k + 3 + (i : Int)) = gk at *
  generalize nB t f k = a0 at *
  clear b hk
  have HT := hide (And.intro hs (And.intro ht hf))
  have HNf := hide hNf
  clear hs ht hf hNf h64
  have bm := Blk.new w 27 #[.pointer (some ⟨gm, 0, none⟩)]
  have bs := Blk.new (w.alloc (.cells #[.pointer (some ⟨gm, 0, none⟩)] 27)) 3 #[.int .i64 k]
  have bx := Blk.new ((w.alloc (.cells #[.pointer (some ⟨gm, 0, none⟩)] 27)).alloc (.cells #[.int .i64 k] 3)) 82 #[.bool false, .slice none 0 0, .slice none 0 0, .int .u64 0]
  have B := (Below.refl w.heap.size w).alloc (Nat.le_refl _) (.cells #[.pointer (some ⟨gm, 0, none⟩)] 27)
  replace B := B.alloc B.size (.cells #[.int .i64 k] 3)
  replace B := B.alloc B.size (.cells #[.bool false, .slice none 0 0, .slice none 0 0, .int .u64 0] 82)
  replace bm := (bm.alloc (.cells #[.int .i64 k] 3)).alloc (.cells #[.bool false, .slice none 0 0, .slice none 0 0, .int .u64 0] 82)
  replace bs := bs.alloc (.cells #[.bool false, .slice none 0 0, .slice none 0 0, .int .u64 0] 82)
  simp only [World.size_alloc] at bs bx
  replace M := M.below B
  go_enter Tryz.func40, Tryz.ntmps40
  go_wp2_with fail
  generalize ((w.alloc (.cells #[.pointer (some ⟨gm, 0, none⟩)] 27)).alloc (.cells #[.int .i64 k] 3)).alloc (.cells #[.bool false, .slice none 0 0, .slice none 0 0, .int .u64 0] 82) = w0 at *
  obtain ⟨b, hb⟩ : ∃ b, b = w.heap.size := ⟨_, rfl⟩
  rw [← hb] at bm bs bx ⊢
  have HBE := hide hb
  clear hb
  refine wp_region_heldZ [] (fun w' => w'.cell? ⟨b, 0, none⟩ = some (.pointer (some ⟨gm, 0, none⟩)) ∧ w'.cell? ⟨b + 1, 0, none⟩ = some (.int .i64 k) ∧ w'.cell? ⟨gm, 0, none⟩ = some (.int .i64 s) ∧ w'.cell? ⟨gm, 1, none⟩ = some (.int .i64 t) ∧ w'.cell? ⟨gm, 2, none⟩ = some (.int .i64 f) ∧ w'.cell? ⟨gm, 3, none⟩ = some (.int .i64 l) ∧ w'.cell? ⟨gm, 4, none⟩ = some (.int .i64 p)) (by kernel_rfl) (by exact ⟨bm.cell 0, bs.cell 0, mem5 M⟩) (fun hHeld => ?_)
  replace M := M.drew
  replace bm := bm.drew
  replace bs := bs.drew
  replace bx := bx.drew
  replace B := B.drew
  generalize w0.drew = w0x at *
  refine' wpAnyZ_takeA (i := 0) (v := ?_) (opAt rfl) (by kernel_rfl) (by kernel_rfl) (by kernel_rfl) (by kernel_rfl) (fun _ _ _ h => h) (by assumption) (by rfl) (fun w hSw => ?_) ?_
  rotate_left
  · (try dsimp only at hSw); go_simp; (try with_reducible rfl)
  try simp only [Act.put, List.setIfInBounds_toArray, List.set_cons_zero, List.set_cons_succ]
  refine' wpAnyZ_takeA (i := 1) (v := ?_) (opAt rfl) (by kernel_rfl) (by kernel_rfl) (by kernel_rfl) (by kernel_rfl) (fun _ _ _ h => h) (by assumption) (by rfl) (fun w hSw => ?_) ?_
  rotate_left
  · (try dsimp only at hSw); go_simp; (try with_reducible rfl)
  try simp only [Act.put, List.setIfInBounds_toArray, List.set_cons_zero, List.set_cons_succ]
  refine' wpAnyZ_takeA (i := 2) (v := ?_) (opAt rfl) (by kernel_rfl) (by kernel_rfl) (by kernel_rfl) (by kernel_rfl) (fun _ _ _ h => h) (by assumption) (by rfl) (fun w hSw => ?_) ?_
  rotate_left
  · (try dsimp only at hSw); go_simp; (try with_reducible rfl)
  try simp only [Act.put, List.setIfInBounds_toArray, List.set_cons_zero, List.set_cons_succ]
  refine' wpAnyZ_takeA (i := 3) (v := ?_) (opAt rfl) (by kernel_rfl) (by kernel_rfl) (by kernel_rfl) (by kernel_rfl) (fun _ _ _ h => h) (by assumption) (by rfl) (fun w hSw => ?_) ?_
  rotate_left
  · (try dsimp only at hSw); go_simp; (try with_reducible rfl)
  try simp only [Act.put, List.setIfInBounds_toArray, List.set_cons_zero, List.set_cons_succ]
  refine' wpAnyZ_takeA (i := 4) (v := ?_) (opAt rfl) (by kernel_rfl) (by kernel_rfl) (by kernel_rfl) (by kernel_rfl) (fun _ _ _ h => h) (by assumption) (by rfl) (fun w hSw => ?_) ?_
  rotate_left
  · (try dsimp only at hSw); go_simp; (try with_reducible rfl)
  try simp only [Act.put, List.setIfInBounds_toArray, List.set_cons_zero, List.set_cons_succ]
  refine' wpAnyZ_takeA (i := 5) (v := ?_) (opAt rfl) (by kernel_rfl) (by kernel_rfl) (by kernel_rfl) (by kernel_rfl) (fun _ _ _ h => h) (by assumption) (by rfl) (fun w hSw => ?_) ?_
  rotate_left
  · (try dsimp only at hSw); go_simp; (try with_reducible rfl)
  try simp only [Act.put, List.setIfInBounds_toArray, List.set_cons_zero, List.set_cons_succ]
  refine' wpAnyZ_takeA (i := 6) (v := ?_) (opAt rfl) (by kernel_rfl) (by kernel_rfl) (by kernel_rfl) (by kernel_rfl) (fun _ _ _ h => h) (by assumption) (by rfl) (fun w hSw => ?_) ?_
  rotate_left
  · (try dsimp only at hSw); go_simp; (try with_reducible rfl)
  try simp only [Act.put, List.setIfInBounds_toArray, List.set_cons_zero, List.set_cons_succ]
  refine' wpAnyZ_takeA (i := 7) (v := ?_) (opAt rfl) (by kernel_rfl) (by kernel_rfl) (by kernel_rfl) (by kernel_rfl) (fun _ _ _ h => h) (by assumption) (by rfl) (fun w hSw => ?_) ?_
  rotate_left
  · (try dsimp only at hSw); go_simp; (try with_reducible rfl)
  try simp only [Act.put, List.setIfInBounds_toArray, List.set_cons_zero, List.set_cons_succ]
  refine wpAnyZ_ready (rs := [8]) (by kernel_rfl) (by simp) ?_
  refine AllReadyZ.cons (opAt rfl) (fun K hK => ?_) ?_
  · skip
    go_simp
    refine (CV.out _).mono ?_
    rintro e w1 ⟨rfl, hb1⟩
    replace M := M.below hb1
    replace bm := bm.below hb1 bm.lt
    replace bs := bs.below hb1 bs.lt
    replace bx := bx.below hb1 bx.lt
    replace B := B.trans (hb1.mono B.size)
    clear hb1
    try go_wp2_with fail
    refine hK.out _ _ (by exact ⟨bm.cell 0, bs.cell 0, mem5 M⟩) (fun hHeld => ?_)
    clear hK K
    try simp only [Act.put, List.setIfInBounds_toArray, List.set_cons_zero, List.set_cons_succ]
    refine' wpAnyZ_takeA (i := 9) (v := ?_) (opAt rfl) (by kernel_rfl) (by kernel_rfl) (by kernel_rfl) (by kernel_rfl) (fun _ _ _ h => h) (by assumption) (by rfl) (fun w hSw => ?_) ?_
    rotate_left
    · (try dsimp only at hSw); go_simp; (try with_reducible rfl)
    try simp only [Act.put, List.setIfInBounds_toArray, List.set_cons_zero, List.set_cons_succ]
    refine' wpAnyZ_takeA (i := 10) (v := ?_) (opAt rfl) (by kernel_rfl) (by kernel_rfl) (by kernel_rfl) (by kernel_rfl) (fun _ _ _ h => h) (by assumption) (by rfl) (fun w hSw => ?_) ?_
    rotate_left
    · (try dsimp only at hSw); go_simp; (try with_reducible rfl)
    try simp only [Act.put, List.setIfInBounds_toArray, List.set_cons_zero, List.set_cons_succ]
    refine wpAnyZ_done (by kernel_rfl) ?_ _
    go_wp2_with fail
    refine wp_region_heldZ [] (fun w' => w'.cell? ⟨b, 0, none⟩ = some (.pointer (some ⟨gm, 0, none⟩)) ∧ w'.cell? ⟨b + 1, 0, none⟩ = some (.int .i64 k) ∧ w'.cell? ⟨gm, 0, none⟩ = some (.int .i64 s) ∧ w'.cell? ⟨gm, 1, none⟩ = some (.int .i64 t) ∧ w'.cell? ⟨gm, 2, none⟩ = some (.int .i64 f) ∧ w'.cell? ⟨gm, 3, none⟩ = some (.int .i64 l) ∧ w'.cell? ⟨gm, 4, none⟩ = some (.int .i64 p)) (by kernel_rfl) (by exact ⟨bm.cell 0, bs.cell 0, mem5 M⟩) (fun hHeld => ?_)
    replace M := M.drew
    replace bm := bm.drew
    replace bs := bs.drew
    replace bx := bx.drew
    replace B := B.drew
    generalize w1.drew = w1x at *
    refine' wpAnyZ_takeA (i := 0) (v := ?_) (opAt rfl) (by kernel_rfl) (by kernel_rfl) (by kernel_rfl) (by kernel_rfl) (fun _ _ _ h => h) (by assumption) (by rfl) (fun w hSw => ?_) ?_
    rotate_left
    · (try dsimp only at hSw); go_simp; (try with_reducible rfl)
    try simp only [Act.put, List.setIfInBounds_toArray, List.set_cons_zero, List.set_cons_succ]
    refine' wpAnyZ_takeA (i := 1) (v := ?_) (opAt rfl) (by kernel_rfl) (by kernel_rfl) (by kernel_rfl) (by kernel_rfl) (fun _ _ _ h => h) (by assumption) (by rfl) (fun w hSw => ?_) ?_
    rotate_left
    · (try dsimp only at hSw); go_simp; (try with_reducible rfl)
    try simp only [Act.put, List.setIfInBounds_toArray, List.set_cons_zero, List.set_cons_succ]
    refine' wpAnyZ_takeA (i := 2) (v := ?_) (opAt rfl) (by kernel_rfl) (by kernel_rfl) (by kernel_rfl) (by kernel_rfl) (fun _ _ _ h => h) (by assumption) (by rfl) (fun w hSw => ?_) ?_
    rotate_left
    · (try dsimp only at hSw); go_simp; (try with_reducible rfl)
    try simp only [Act.put, List.setIfInBounds_toArray, List.set_cons_zero, List.set_cons_succ]
    refine' wpAnyZ_takeA (i := 3) (v := ?_) (opAt rfl) (by kernel_rfl) (by kernel_rfl) (by kernel_rfl) (by kernel_rfl) (fun _ _ _ h => h) (by assumption) (by rfl) (fun w hSw => ?_) ?_
    rotate_left
    · (try dsimp only at hSw); go_simp; (try with_reducible rfl)
    try simp only [Act.put, List.setIfInBounds_toArray, List.set_cons_zero, List.set_cons_succ]
    refine' wpAnyZ_takeA (i := 4) (v := ?_) (opAt rfl) (by kernel_rfl) (by kernel_rfl) (by kernel_rfl) (by kernel_rfl) (fun _ _ _ h => h) (by assumption) (by rfl) (fun w hSw => ?_) ?_
    rotate_left
    · (try dsimp only at hSw); go_simp; (try with_reducible rfl)
    try simp only [Act.put, List.setIfInBounds_toArray, List.set_cons_zero, List.set_cons_succ]
    refine' wpAnyZ_takeA (i := 5) (v := ?_) (opAt rfl) (by kernel_rfl) (by kernel_rfl) (by kernel_rfl) (by kernel_rfl) (fun _ _ _ h => h) (by assumption) (by rfl) (fun w hSw => ?_) ?_
    rotate_left
    · (try dsimp only at hSw); go_simp; (try with_reducible rfl)
    try simp only [Act.put, List.setIfInBounds_toArray, List.set_cons_zero, List.set_cons_succ]
    refine wpAnyZ_ready (rs := [6]) (by kernel_rfl) (by simp) ?_
    refine AllReadyZ.cons (opAt rfl) (fun K hK => ?_) ?_
    · skip
      go_simp
      refine (CS.out _).mono ?_
      rintro e w3 ⟨rfl, hb1⟩
      replace M := M.below hb1
      replace bm := bm.below hb1 bm.lt
      replace bs := bs.below hb1 bs.lt
      replace bx := bx.below hb1 bx.lt
      replace B := B.trans (hb1.mono B.size)
      clear hb1
      try go_wp2_with fail
      refine hK.out _ _ (by exact ⟨bm.cell 0, bs.cell 0, mem5 M⟩) (fun hHeld => ?_)
      clear hK K
      try simp only [Act.put, List.setIfInBounds_toArray, List.set_cons_zero, List.set_cons_succ]
      refine wpAnyZ_ready (rs := [7]) (by kernel_rfl) (by simp) ?_
      refine AllReadyZ.cons (opAt rfl) (fun K hK => ?_) ?_
      · skip
        go_simp
        refine (W1.out _ M).mono ?_
        rintro e w3x ⟨rfl, rfl⟩
        try go_wp2_with fail
        refine hK.out _ _ (by exact ⟨bm.cell 0, bs.cell 0, mem5 M⟩) (fun hHeld => ?_)
        clear hK K
        try simp only [Act.put, List.setIfInBounds_toArray, List.set_cons_zero, List.set_cons_succ]
        refine' wpAnyZ_takeA (i := 8) (v := ?_) (opAt rfl) (by kernel_rfl) (by kernel_rfl) (by kernel_rfl) (by kernel_rfl) (fun _ _ _ h => h) (by assumption) (by rfl) (fun w hSw => ?_) ?_
        rotate_left
        · (try dsimp only at hSw); go_simp; (try with_reducible rfl)
        try simp only [Act.put, List.setIfInBounds_toArray, List.set_cons_zero, List.set_cons_succ]
        refine wpAnyZ_done (by kernel_rfl) ?_ _
        have mm := bm.cell 0
        obtain ⟨m0, m1, m2, m3, m4⟩ := mem5 M
        go_wp2_with fail
        refine (CC.out _).mono ?_
        rintro e w4 ⟨rfl, hb1⟩
        clear mm m0 m1 m2 m3 m4
        replace M := M.below hb1
        replace bm := bm.below hb1 bm.lt
        replace bs := bs.below hb1 bs.lt
        replace bx := bx.below hb1 bx.lt
        replace B := B.trans (hb1.mono B.size)
        clear hb1
        go_wp2_with fail
        refine (EN.out _).mono ?_
        rintro e w4x ⟨rfl, rfl⟩
        go_upto_region 5 with fail
        go_cut [7] (fun s7 wx => ∃ gx : Nat, s7 = .pointer (some ⟨gx, 0, none⟩) ∧ After5 gm gw gx b s t f l p k ws inn lk w wx)
        case first =>
          refine wp_region_heldZ [12] (fun w' => w'.cell? ⟨b, 0, none⟩ = some (.pointer (some ⟨gm, 0, none⟩)) ∧ w'.cell? ⟨b + 1, 0, none⟩ = some (.int .i64 k) ∧ w'.cell? ⟨gm, 0, none⟩ = some (.int .i64 s) ∧ w'.cell? ⟨gm, 1, none⟩ = some (.int .i64 t) ∧ w'.cell? ⟨gm, 2, none⟩ = some (.int .i64 f) ∧ w'.cell? ⟨gm, 3, none⟩ = some (.int .i64 l) ∧ w'.cell? ⟨gm, 4, none⟩ = some (.int .i64 p)) (by kernel_rfl) (by exact ⟨bm.cell 0, bs.cell 0, mem5 M⟩) (fun hHeld => ?_)
          replace M := M.drew
          replace bm := bm.drew
          replace bs := bs.drew
          replace bx := bx.drew
          replace B := B.drew
          generalize w4.drew = w4d at *
          refine' wpAnyZ_takeA (i := 0) (v := ?_) (opAt rfl) (by kernel_rfl) (by kernel_rfl) (by kernel_rfl) (by kernel_rfl) (fun _ _ _ h => h) (by assumption) (by rfl) (fun w hSw => ?_) ?_
          rotate_left
          · (try dsimp only at hSw); go_simp; (try with_reducible rfl)
          try simp only [Act.put, List.setIfInBounds_toArray, List.set_cons_zero, List.set_cons_succ]
          refine' wpAnyZ_takeA (i := 2) (v := ?_) (opAt rfl) (by kernel_rfl) (by kernel_rfl) (by kernel_rfl) (by kernel_rfl) (fun _ _ _ h => h) (by assumption) (by rfl) (fun w hSw => ?_) ?_
          rotate_left
          · (try dsimp only at hSw); go_simp; (try with_reducible rfl)
          try simp only [Act.put, List.setIfInBounds_toArray, List.set_cons_zero, List.set_cons_succ]
          refine' wpAnyZ_takeA (i := 3) (v := ?_) (opAt rfl) (by kernel_rfl) (by kernel_rfl) (by kernel_rfl) (by kernel_rfl) (fun _ _ _ h => h) (by assumption) (by rfl) (fun w hSw => ?_) ?_
          rotate_left
          · (try dsimp only at hSw); go_simp; (try with_reducible rfl)
          try simp only [Act.put, List.setIfInBounds_toArray, List.set_cons_zero, List.set_cons_succ]
          refine' wpAnyZ_takeA (i := 4) (v := ?_) (opAt rfl) (by kernel_rfl) (by kernel_rfl) (by kernel_rfl) (by kernel_rfl) (fun _ _ _ h => h) (by assumption) (by rfl) (fun w hSw => ?_) ?_
          rotate_left
          · (try dsimp only at hSw); go_simp; (try with_reducible rfl)
          try simp only [Act.put, List.setIfInBounds_toArray, List.set_cons_zero, List.set_cons_succ]
          refine' wpAnyZ_takeA (i := 5) (v := ?_) (opAt rfl) (by kernel_rfl) (by kernel_rfl) (by kernel_rfl) (by kernel_rfl) (fun _ _ _ h => h) (by assumption) (by rfl) (fun w hSw => ?_) ?_
          rotate_left
          · (try dsimp only at hSw); go_simp; (try with_reducible rfl)
          try simp only [Act.put, List.setIfInBounds_toArray, List.set_cons_zero, List.set_cons_succ]
          refine' wpAnyZ_takeA (i := 6) (v := ?_) (opAt rfl) (by kernel_rfl) (by kernel_rfl) (by kernel_rfl) (by kernel_rfl) (fun _ _ _ h => h) (by assumption) (by rfl) (fun w hSw => ?_) ?_
          rotate_left
          · (try dsimp only at hSw); go_simp; (try with_reducible rfl)
          try simp only [Act.put, List.setIfInBounds_toArray, List.set_cons_zero, List.set_cons_succ]
          refine' wpAnyZ_takeA (i := 7) (v := ?_) (opAt rfl) (by kernel_rfl) (by kernel_rfl) (by kernel_rfl) (by kernel_rfl) (fun _ _ _ h => h) (by assumption) (by rfl) (fun w hSw => ?_) ?_
          rotate_left
          · (try dsimp only at hSw); go_simp; (try with_reducible rfl)
          try simp only [Act.put, List.setIfInBounds_toArray, List.set_cons_zero, List.set_cons_succ]
          refine wpAnyZ_ready (rs := [1, 11]) (by kernel_rfl) (by simp) ?_
          refine AllReadyZ.cons (opAt rfl) (fun K hK => ?_) ?_
          · skip
            go_simp
            refine (IN.out _).mono ?_
            rintro e wi ⟨rfl, rfl⟩
            try go_wp2_with fail
            refine hK.out _ _ (by exact ⟨bm.cell 0, bs.cell 0, mem5 M⟩) (fun hHeld => ?_)
            clear hK K
            try simp only [Act.put, List.setIfInBounds_toArray, List.set_cons_zero, List.set_cons_succ]
            refine wpAnyZ_ready (rs := [8, 11]) (by kernel_rfl) (by simp) ?_
            refine AllReadyZ.cons (opAt rfl) (fun K hK => ?_) ?_
            · skip
              go_simp
              refine (CN.out _).mono ?_
              rintro e w5 ⟨rfl, hb1⟩
              replace M := M.below hb1
              replace bm := bm.below hb1 bm.lt
              replace bs := bs.below hb1 bs.lt
              replace bx := bx.below hb1 bx.lt
              replace B := B.trans (hb1.mono B.size)
              clear hb1
              try go_wp2_with fail
              refine hK.out _ _ (by exact ⟨bm.cell 0, bs.cell 0, mem5 M⟩) (fun hHeld => ?_)
              clear hK K
              try simp only [Act.put, List.setIfInBounds_toArray, List.set_cons_zero, List.set_cons_succ]
              refine wpAnyZ_ready (rs := [9, 11]) (by kernel_rfl) (by simp) ?_
              refine AllReadyZ.cons (opAt rfl) (fun K hK => ?_) ?_
              · skip
                go_simp
                refine (W2.out _ M).mono ?_
                rintro e wj ⟨rfl, rfl⟩
                try go_wp2_with fail
                refine hK.out _ _ (by exact ⟨bm.cell 0, bs.cell 0, mem5 M⟩) (fun hHeld => ?_)
                clear hK K
                try simp only [Act.put, List.setIfInBounds_toArray, List.set_cons_zero, List.set_cons_succ]
                refine' wpAnyZ_takeA (i := 10) (v := ?_) (opAt rfl) (by kernel_rfl) (by kernel_rfl) (by kernel_rfl) (by kernel_rfl) (fun _ _ _ h => h) (by assumption) (by rfl) (fun w hSw => ?_) ?_
                rotate_left
                · (try dsimp only at hSw); go_simp; (try with_reducible rfl)
                try simp only [Act.put, List.setIfInBounds_toArray, List.set_cons_zero, List.set_cons_succ]
                refine wpAnyZ_ready (rs := [11]) (by kernel_rfl) (by simp) ?_
                refine AllReadyZ.cons (opAt rfl) (fun K hK => ?_) ?_
                · skip
                  go_simp
                  have bn := Blk.new w5 82 #[.bool false, .slice none 0 0, .slice none 0 0, .int .u64 0]
                  have HGX := hide (show b + 1 + 1 < w5.heap.size from bx.lt)
                  have HGM := hide (show gm < w5.heap.size ∧ gw < w5.heap.size from ⟨Blk.lt M.1, Blk.lt M.2.1⟩)
                  replace M := M.below ((Below.refl w5.heap.size w5).alloc (Nat.le_refl _) (.cells #[.bool false, .slice none 0 0, .slice none 0 0, .int .u64 0] 82))
                  replace bm := bm.alloc (.cells #[.bool false, .slice none 0 0, .slice none 0 0, .int .u64 0] 82)
                  replace bs := bs.alloc (.cells #[.bool false, .slice none 0 0, .slice none 0 0, .int .u64 0] 82)
                  replace bx := bx.alloc (.cells #[.bool false, .slice none 0 0, .slice none 0 0, .int .u64 0] 82)
                  replace B := B.alloc B.size (.cells #[.bool false, .slice none 0 0, .slice none 0 0, .int .u64 0] 82)
                  generalize w5.alloc (.cells #[.bool false, .slice none 0 0, .slice none 0 0, .int .u64 0] 82) = w6 at *
                  generalize w5.heap.size = gx at *
                  refine hK.out _ _ (by exact ⟨bm.cell 0, bs.cell 0, mem5 M⟩) (fun hHeld => ?_)
                  clear hK K
                  try simp only [Act.put, List.setIfInBounds_toArray, List.set_cons_zero, List.set_cons_succ]
                  refine wpAnyZ_ready (rs := [12]) (by kernel_rfl) (by simp) ?_
                  refine AllReadyZ.last (opAt rfl) (by kernel_rfl) (fun K hK => ?_) ?_
                  · skip
                    have zn := fun i => bn.frozen i
                    have mn := fun i => bn.cell i
                    go_simp
                    refine hK.out _ _ ?_
                    clear hK K
                    try simp only [Act.put, List.setIfInBounds_toArray, List.set_cons_zero, List.set_cons_succ]
                    refine wpAnyZ_done (by kernel_rfl) ?_ _
                    clear zn mn
                    replace bm := bm.far (p := ⟨gx, 0, none⟩) (by have := HGX.out; show b ≠ gx; omega) (.bool inn)
                    replace bm := bm.far (p := ⟨gx, 1, none⟩) (by have := HGX.out; show b ≠ gx; omega) (.slice none 0 0)
                    replace bm := bm.far (p := ⟨gx, 2, none⟩) (by have := HGX.out; show b ≠ gx; omega) (.slice none 0 0)
                    replace bm := bm.far (p := ⟨gx, 3, none⟩) (by have := HGX.out; show b ≠ gx; omega) (.int .u64 lk)
                    replace bs := bs.far (p := ⟨gx, 0, none⟩) (by have := HGX.out; show b + 1 ≠ gx; omega) (.bool inn)
                    replace bs := bs.far (p := ⟨gx, 1, none⟩) (by have := HGX.out; show b + 1 ≠ gx; omega) (.slice none 0 0)
                    replace bs := bs.far (p := ⟨gx, 2, none⟩) (by have := HGX.out; show b + 1 ≠ gx; omega) (.slice none 0 0)
                    replace bs := bs.far (p := ⟨gx, 3, none⟩) (by have := HGX.out; show b + 1 ≠ gx; omega) (.int .u64 lk)
                    replace bx := bx.far (p := ⟨gx, 0, none⟩) (by have := HGX.out; show b + 1 + 1 ≠ gx; omega) (.bool inn)
                    replace bx := bx.far (p := ⟨gx, 1, none⟩) (by have := HGX.out; show b + 1 + 1 ≠ gx; omega) (.slice none 0 0)
                    replace bx := bx.far (p := ⟨gx, 2, none⟩) (by have := HGX.out; show b + 1 + 1 ≠ gx; omega) (.slice none 0 0)
                    replace bx := bx.far (p := ⟨gx, 3, none⟩) (by have := HGX.out; show b + 1 + 1 ≠ gx; omega) (.int .u64 lk)
                    have HGN := hide (show gm ≠ gx ∧ gw ≠ gx by have := HGM.out; omega)
                    replace M := M.grown (grown_set _ gx 0 (.bool inn)) (fun e => by injection e with e; exact HGN.out.1 e) (fun e => by injection e with e; exact HGN.out.2 e)
                    replace M := M.grown (grown_set _ gx 1 (.slice none 0 0)) (fun e => by injection e with e; exact HGN.out.1 e) (fun e => by injection e with e; exact HGN.out.2 e)
                    replace M := M.grown (grown_set _ gx 2 (.slice none 0 0)) (fun e => by injection e with e; exact HGN.out.1 e) (fun e => by injection e with e; exact HGN.out.2 e)
                    replace M := M.grown (grown_set _ gx 3 (.int .u64 lk)) (fun e => by injection e with e; exact HGN.out.1 e) (fun e => by injection e with e; exact HGN.out.2 e)
                    replace B := below_setN (g := gx) B (by have h1 := HGX.out; have h2 := HBE.out; omega) (.bool inn) (.slice none 0 0) (.slice none 0 0) (.int .u64 lk)
                    replace bn := bn.setN (.bool inn) (.slice none 0 0) (.slice none 0 0) (.int .u64 lk)
                    generalize (((w6.setCell ⟨gx, 0, none⟩ (.bool inn)).setCell ⟨gx, 1, none⟩ (.slice none 0 0)).setCell ⟨gx, 2, none⟩ (.slice none 0 0)).setCell ⟨gx, 3, none⟩ (.int .u64 lk) = w7 at *
                    go_wp2_with fail
                    go_meet
                    exact ⟨gx, rfl, bn, M, bm, bs, bx, B, HGN.out, HGX.out⟩
                  exact AllReadyZ.nil
                exact AllReadyZ.nil
              refine AllReadyZ.cons (opAt rfl) (fun K hK => ?_) ?_
              · skip
                go_simp
                have bn := Blk.new w5 82 #[.bool false, .slice none 0 0, .slice none 0 0, .int .u64 0]
                have HGX := hide (show b + 1 + 1 < w5.heap.size from bx.lt)
                have HGM := hide (show gm < w5.heap.size ∧ gw < w5.heap.size from ⟨Blk.lt M.1, Blk.lt M.2.1⟩)
                replace M := M.below ((Below.refl w5.heap.size w5).alloc (Nat.le_refl _) (.cells #[.bool false, .slice none 0 0, .slice none 0 0, .int .u64 0] 82))
                replace bm := bm.alloc (.cells #[.bool false, .slice none 0 0, .slice none 0 0, .int .u64 0] 82)
                replace bs := bs.alloc (.cells #[.bool false, .slice none 0 0, .slice none 0 0, .int .u64 0] 82)
                replace bx := bx.alloc (.cells #[.bool false, .slice none 0 0, .slice none 0 0, .int .u64 0] 82)
                replace B := B.alloc B.size (.cells #[.bool false, .slice none 0 0, .slice none 0 0, .int .u64 0] 82)
                generalize w5.alloc (.cells #[.bool false, .slice none 0 0, .slice none 0 0, .int .u64 0] 82) = w6 at *
                generalize w5.heap.size = gx at *
                refine hK.out _ _ (by exact ⟨bm.cell 0, bs.cell 0, mem5 M⟩) (fun hHeld => ?_)
                clear hK K
                try simp only [Act.put, List.setIfInBounds_toArray, List.set_cons_zero, List.set_cons_succ]
                refine wpAnyZ_ready (rs := [9]) (by kernel_rfl) (by simp) ?_
                refine AllReadyZ.cons (opAt rfl) (fun K hK => ?_) ?_
                · skip
                  go_simp
                  refine (W2.out _ M).mono ?_
                  rintro e wj ⟨rfl, rfl⟩
                  try go_wp2_with fail
                  refine hK.out _ _ (by exact ⟨bm.cell 0, bs.cell 0, mem5 M⟩) (fun hHeld => ?_)
                  clear hK K
                  try simp only [Act.put, List.setIfInBounds_toArray, List.set_cons_zero, List.set_cons_succ]
                  refine' wpAnyZ_takeA (i := 10) (v := ?_) (opAt rfl) (by kernel_rfl) (by kernel_rfl) (by kernel_rfl) (by kernel_rfl) (fun _ _ _ h => h) (by assumption) (by rfl) (fun w hSw => ?_) ?_
                  rotate_left
                  · (try dsimp only at hSw); go_simp; (try with_reducible rfl)
                  try simp only [Act.put, List.setIfInBounds_toArray, List.set_cons_zero, List.set_cons_succ]
                  refine wpAnyZ_ready (rs := [12]) (by kernel_rfl) (by simp) ?_
                  refine AllReadyZ.last (opAt rfl) (by kernel_rfl) (fun K hK => ?_) ?_
                  · skip
                    have zn := fun i => bn.frozen i
                    have mn := fun i => bn.cell i
                    go_simp
                    refine hK.out _ _ ?_
                    clear hK K
                    try simp only [Act.put, List.setIfInBounds_toArray, List.set_cons_zero, List.set_cons_succ]
                    refine wpAnyZ_done (by kernel_rfl) ?_ _
                    clear zn mn
                    replace bm := bm.far (p := ⟨gx, 0, none⟩) (by have := HGX.out; show b ≠ gx; omega) (.bool inn)
                    replace bm := bm.far (p := ⟨gx, 1, none⟩) (by have := HGX.out; show b ≠ gx; omega) (.slice none 0 0)
                    replace bm := bm.far (p := ⟨gx, 2, none⟩) (by have := HGX.out; show b ≠ gx; omega) (.slice none 0 0)
                    replace bm := bm.far (p := ⟨gx, 3, none⟩) (by have := HGX.out; show b ≠ gx; omega) (.int .u64 lk)
                    replace bs := bs.far (p := ⟨gx, 0, none⟩) (by have := HGX.out; show b + 1 ≠ gx; omega) (.bool inn)
                    replace bs := bs.far (p := ⟨gx, 1, none⟩) (by have := HGX.out; show b + 1 ≠ gx; omega) (.slice none 0 0)
                    replace bs := bs.far (p := ⟨gx, 2, none⟩) (by have := HGX.out; show b + 1 ≠ gx; omega) (.slice none 0 0)
                    replace bs := bs.far (p := ⟨gx, 3, none⟩) (by have := HGX.out; show b + 1 ≠ gx; omega) (.int .u64 lk)
                    replace bx := bx.far (p := ⟨gx, 0, none⟩) (by have := HGX.out; show b + 1 + 1 ≠ gx; omega) (.bool inn)
                    replace bx := bx.far (p := ⟨gx, 1, none⟩) (by have := HGX.out; show b + 1 + 1 ≠ gx; omega) (.slice none 0 0)
                    replace bx := bx.far (p := ⟨gx, 2, none⟩) (by have := HGX.out; show b + 1 + 1 ≠ gx; omega) (.slice none 0 0)
                    replace bx := bx.far (p := ⟨gx, 3, none⟩) (by have := HGX.out; show b + 1 + 1 ≠ gx; omega) (.int .u64 lk)
                    have HGN := hide (show gm ≠ gx ∧ gw ≠ gx by have := HGM.out; omega)
                    replace M := M.grown (grown_set _ gx 0 (.bool inn)) (fun e => by injection e with e; exact HGN.out.1 e) (fun e => by injection e with e; exact HGN.out.2 e)
                    replace M := M.grown (grown_set _ gx 1 (.slice none 0 0)) (fun e => by injection e with e; exact HGN.out.1 e) (fun e => by injection e with e; exact HGN.out.2 e)
                    replace M := M.grown (grown_set _ gx 2 (.slice none 0 0)) (fun e => by injection e with e; exact HGN.out.1 e) (fun e => by injection e with e; exact HGN.out.2 e)
                    replace M := M.grown (grown_set _ gx 3 (.int .u64 lk)) (fun e => by injection e with e; exact HGN.out.1 e) (fun e => by injection e with e; exact HGN.out.2 e)
                    replace B := below_setN (g := gx) B (by have h1 := HGX.out; have h2 := HBE.out; omega) (.bool inn) (.slice none 0 0) (.slice none 0 0) (.int .u64 lk)
                    replace bn := bn.setN (.bool inn) (.slice none 0 0) (.slice none 0 0) (.int .u64 lk)
                    generalize (((w6.setCell ⟨gx, 0, none⟩ (.bool inn)).setCell ⟨gx, 1, none⟩ (.slice none 0 0)).setCell ⟨gx, 2, none⟩ (.slice none 0 0)).setCell ⟨gx, 3, none⟩ (.int .u64 lk) = w7 at *
                    go_wp2_with fail
                    go_meet
                    exact ⟨gx, rfl, bn, M, bm, bs, bx, B, HGN.out, HGX.out⟩
                  exact AllReadyZ.nil
                exact AllReadyZ.nil
              exact AllReadyZ.nil
            refine AllReadyZ.cons (opAt rfl) (fun K hK => ?_) ?_
            · skip
              go_simp
              have bn := Blk.new w4d 82 #[.bool false, .slice none 0 0, .slice none 0 0, .int .u64 0]
              have HGX := hide (show b + 1 + 1 < w4d.heap.size from bx.lt)
              have HGM := hide (show gm < w4d.heap.size ∧ gw < w4d.heap.size from ⟨Blk.lt M.1, Blk.lt M.2.1⟩)
              replace M := M.below ((Below.refl w4d.heap.size w4d).alloc (Nat.le_refl _) (.cells #[.bool false, .slice none 0 0, .slice none 0 0, .int .u64 0] 82))
              replace bm := bm.alloc (.cells #[.bool false, .slice none 0 0, .slice none 0 0, .int .u64 0] 82)
              replace bs := bs.alloc (.cells #[.bool false, .slice none 0 0, .slice none 0 0, .int .u64 0] 82)
              replace bx := bx.alloc (.cells #[.bool false, .slice none 0 0, .slice none 0 0, .int .u64 0] 82)
              replace B := B.alloc B.size (.cells #[.bool false, .slice none 0 0, .slice none 0 0, .int .u64 0] 82)
              generalize w4d.alloc (.cells #[.bool false, .slice none 0 0, .slice none 0 0, .int .u64 0] 82) = w6 at *
              generalize w4d.heap.size = gx at *
              refine hK.out _ _ (by exact ⟨bm.cell 0, bs.cell 0, mem5 M⟩) (fun hHeld => ?_)
              clear hK K
              try simp only [Act.put, List.setIfInBounds_toArray, List.set_cons_zero, List.set_cons_succ]
              refine wpAnyZ_ready (rs := [8]) (by kernel_rfl) (by simp) ?_
              refine AllReadyZ.cons (opAt rfl) (fun K hK => ?_) ?_
              · skip
                go_simp
                refine (CN.out _).mono ?_
                rintro e w5 ⟨rfl, hb1⟩
                replace bn := bn.below hb1 bn.lt
                replace M := M.below hb1
                replace bm := bm.below hb1 bm.lt
                replace bs := bs.below hb1 bs.lt
                replace bx := bx.below hb1 bx.lt
                replace B := B.trans (hb1.mono B.size)
                clear hb1
                try go_wp2_with fail
                refine hK.out _ _ (by exact ⟨bm.cell 0, bs.cell 0, mem5 M⟩) (fun hHeld => ?_)
                clear hK K
                try simp only [Act.put, List.setIfInBounds_toArray, List.set_cons_zero, List.set_cons_succ]
                refine wpAnyZ_ready (rs := [9]) (by kernel_rfl) (by simp) ?_
                refine AllReadyZ.cons (opAt rfl) (fun K hK => ?_) ?_
                · skip
                  go_simp
                  refine (W2.out _ M).mono ?_
                  rintro e wj ⟨rfl, rfl⟩
                  try go_wp2_with fail
                  refine hK.out _ _ (by exact ⟨bm.cell 0, bs.cell 0, mem5 M⟩) (fun hHeld => ?_)
                  clear hK K
                  try simp only [Act.put, List.setIfInBounds_toArray, List.set_cons_zero, List.set_cons_succ]
                  refine' wpAnyZ_takeA (i := 10) (v := ?_) (opAt rfl) (by kernel_rfl) (by kernel_rfl) (by kernel_rfl) (by kernel_rfl) (fun _ _ _ h => h) (by assumption) (by rfl) (fun w hSw => ?_) ?_
                  rotate_left
                  · (try dsimp only at hSw); go_simp; (try with_reducible rfl)
                  try simp only [Act.put, List.setIfInBounds_toArray, List.set_cons_zero, List.set_cons_succ]
                  refine wpAnyZ_ready (rs := [12]) (by kernel_rfl) (by simp) ?_
                  refine AllReadyZ.last (opAt rfl) (by kernel_rfl) (fun K hK => ?_) ?_
                  · skip
                    have zn := fun i => bn.frozen i
                    have mn := fun i => bn.cell i
                    go_simp
                    refine hK.out _ _ ?_
                    clear hK K
                    try simp only [Act.put, List.setIfInBounds_toArray, List.set_cons_zero, List.set_cons_succ]
                    refine wpAnyZ_done (by kernel_rfl) ?_ _
                    clear zn mn
                    replace bm := bm.far (p := ⟨gx, 0, none⟩) (by have := HGX.out; show b ≠ gx; omega) (.bool inn)
                    replace bm := bm.far (p := ⟨gx, 1, none⟩) (by have := HGX.out; show b ≠ gx; omega) (.slice none 0 0)
                    replace bm := bm.far (p := ⟨gx, 2, none⟩) (by have := HGX.out; show b ≠ gx; omega) (.slice none 0 0)
                    replace bm := bm.far (p := ⟨gx, 3, none⟩) (by have := HGX.out; show b ≠ gx; omega) (.int .u64 lk)
                    replace bs := bs.far (p := ⟨gx, 0, none⟩) (by have := HGX.out; show b + 1 ≠ gx; omega) (.bool inn)
                    replace bs := bs.far (p := ⟨gx, 1, none⟩) (by have := HGX.out; show b + 1 ≠ gx; omega) (.slice none 0 0)
                    replace bs := bs.far (p := ⟨gx, 2, none⟩) (by have := HGX.out; show b + 1 ≠ gx; omega) (.slice none 0 0)
                    replace bs := bs.far (p := ⟨gx, 3, none⟩) (by have := HGX.out; show b + 1 ≠ gx; omega) (.int .u64 lk)
                    replace bx := bx.far (p := ⟨gx, 0, none⟩) (by have := HGX.out; show b + 1 + 1 ≠ gx; omega) (.bool inn)
                    replace bx := bx.far (p := ⟨gx, 1, none⟩) (by have := HGX.out; show b + 1 + 1 ≠ gx; omega) (.slice none 0 0)
                    replace bx := bx.far (p := ⟨gx, 2, none⟩) (by have := HGX.out; show b + 1 + 1 ≠ gx; omega) (.slice none 0 0)
                    replace bx := bx.far (p := ⟨gx, 3, none⟩) (by have := HGX.out; show b + 1 + 1 ≠ gx; omega) (.int .u64 lk)
                    have HGN := hide (show gm ≠ gx ∧ gw ≠ gx by have := HGM.out; omega)
                    replace M := M.grown (grown_set _ gx 0 (.bool inn)) (fun e => by injection e with e; exact HGN.out.1 e) (fun e => by injection e with e; exact HGN.out.2 e)
                    replace M := M.grown (grown_set _ gx 1 (.slice none 0 0)) (fun e => by injection e with e; exact HGN.out.1 e) (fun e => by injection e with e; exact HGN.out.2 e)
                    replace M := M.grown (grown_set _ gx 2 (.slice none 0 0)) (fun e => by injection e with e; exact HGN.out.1 e) (fun e => by injection e with e; exact HGN.out.2 e)
                    replace M := M.grown (grown_set _ gx 3 (.int .u64 lk)) (fun e => by injection e with e; exact HGN.out.1 e) (fun e => by injection e with e; exact HGN.out.2 e)
                    replace B := below_setN (g := gx) B (by have h1 := HGX.out; have h2 := HBE.out; omega) (.bool inn) (.slice none 0 0) (.slice none 0 0) (.int .u64 lk)
                    replace bn := bn.setN (.bool inn) (.slice none 0 0) (.slice none 0 0) (.int .u64 lk)
                    generalize (((w5.setCell ⟨gx, 0, none⟩ (.bool inn)).setCell ⟨gx, 1, none⟩ (.slice none 0 0)).setCell ⟨gx, 2, none⟩ (.slice none 0 0)).setCell ⟨gx, 3, none⟩ (.int .u64 lk) = w7 at *
                    go_wp2_with fail
                    go_meet
                    exact ⟨gx, rfl, bn, M, bm, bs, bx, B, HGN.out, HGX.out⟩
                  exact AllReadyZ.nil
                exact AllReadyZ.nil
              exact AllReadyZ.nil
            exact AllReadyZ.nil
          refine AllReadyZ.cons (opAt rfl) (fun K hK => ?_) ?_
          · skip
            go_simp
            have bn := Blk.new w4d 82 #[.bool false, .slice none 0 0, .slice none 0 0, .int .u64 0]
            have HGX := hide (show b + 1 + 1 < w4d.heap.size from bx.lt)
            have HGM := hide (show gm < w4d.heap.size ∧ gw < w4d.heap.size from ⟨Blk.lt M.1, Blk.lt M.2.1⟩)
            replace M := M.below ((Below.refl w4d.heap.size w4d).alloc (Nat.le_refl _) (.cells #[.bool false, .slice none 0 0, .slice none 0 0, .int .u64 0] 82))
            replace bm := bm.alloc (.cells #[.bool false, .slice none 0 0, .slice none 0 0, .int .u64 0] 82)
            replace bs := bs.alloc (.cells #[.bool false, .slice none 0 0, .slice none 0 0, .int .u64 0] 82)
            replace bx := bx.alloc (.cells #[.bool false, .slice none 0 0, .slice none 0 0, .int .u64 0] 82)
            replace B := B.alloc B.size (.cells #[.bool false, .slice none 0 0, .slice none 0 0, .int .u64 0] 82)
            generalize w4d.alloc (.cells #[.bool false, .slice none 0 0, .slice none 0 0, .int .u64 0] 82) = w6 at *
            generalize w4d.heap.size = gx at *
            refine hK.out _ _ (by exact ⟨bm.cell 0, bs.cell 0, mem5 M⟩) (fun hHeld => ?_)
            clear hK K
            try simp only [Act.put, List.setIfInBounds_toArray, List.set_cons_zero, List.set_cons_succ]
            refine wpAnyZ_ready (rs := [1]) (by kernel_rfl) (by simp) ?_
            refine AllReadyZ.cons (opAt rfl) (fun K hK => ?_) ?_
            · skip
              go_simp
              refine (IN.out _).mono ?_
              rintro e wi ⟨rfl, rfl⟩
              try go_wp2_with fail
              refine hK.out _ _ (by exact ⟨bm.cell 0, bs.cell 0, mem5 M⟩) (fun hHeld => ?_)
              clear hK K
              try simp only [Act.put, List.setIfInBounds_toArray, List.set_cons_zero, List.set_cons_succ]
              refine wpAnyZ_ready (rs := [8]) (by kernel_rfl) (by simp) ?_
              refine AllReadyZ.cons (opAt rfl) (fun K hK => ?_) ?_
              · skip
                go_simp
                refine (CN.out _).mono ?_
                rintro e w5 ⟨rfl, hb1⟩
                replace bn := bn.below hb1 bn.lt
                replace M := M.below hb1
                replace bm := bm.below hb1 bm.lt
                replace bs := bs.below hb1 bs.lt
                replace bx := bx.below hb1 bx.lt
                replace B := B.trans (hb1.mono B.size)
                clear hb1
                try go_wp2_with fail
                refine hK.out _ _ (by exact ⟨bm.cell 0, bs.cell 0, mem5 M⟩) (fun hHeld => ?_)
                clear hK K
                try simp only [Act.put, List.setIfInBounds_toArray, List.set_cons_zero, List.set_cons_succ]
                refine wpAnyZ_ready (rs := [9]) (by kernel_rfl) (by simp) ?_
                refine AllReadyZ.cons (opAt rfl) (fun K hK => ?_) ?_
                · skip
                  go_simp
                  refine (W2.out _ M).mono ?_
                  rintro e wj ⟨rfl, rfl⟩
                  try go_wp2_with fail
                  refine hK.out _ _ (by exact ⟨bm.cell 0, bs.cell 0, mem5 M⟩) (fun hHeld => ?_)
                  clear hK K
                  try simp only [Act.put, List.setIfInBounds_toArray, List.set_cons_zero, List.set_cons_succ]
                  refine' wpAnyZ_takeA (i := 10) (v := ?_) (opAt rfl) (by kernel_rfl) (by kernel_rfl) (by kernel_rfl) (by kernel_rfl) (fun _ _ _ h => h) (by assumption) (by rfl) (fun w hSw => ?_) ?_
                  rotate_left
                  · (try dsimp only at hSw); go_simp; (try with_reducible rfl)
                  try simp only [Act.put, List.setIfInBounds_toArray, List.set_cons_zero, List.set_cons_succ]
                  refine wpAnyZ_ready (rs := [12]) (by kernel_rfl) (by simp) ?_
                  refine AllReadyZ.last (opAt rfl) (by kernel_rfl) (fun K hK => ?_) ?_
                  · skip
                    have zn := fun i => bn.frozen i
                    have mn := fun i => bn.cell i
                    go_simp
                    refine hK.out _ _ ?_
                    clear hK K
                    try simp only [Act.put, List.setIfInBounds_toArray, List.set_cons_zero, List.set_cons_succ]
                    refine wpAnyZ_done (by kernel_rfl) ?_ _
                    clear zn mn
                    replace bm := bm.far (p := ⟨gx, 0, none⟩) (by have := HGX.out; show b ≠ gx; omega) (.bool inn)
                    replace bm := bm.far (p := ⟨gx, 1, none⟩) (by have := HGX.out; show b ≠ gx; omega) (.slice none 0 0)
                    replace bm := bm.far (p := ⟨gx, 2, none⟩) (by have := HGX.out; show b ≠ gx; omega) (.slice none 0 0)
                    replace bm := bm.far (p := ⟨gx, 3, none⟩) (by have := HGX.out; show b ≠ gx; omega) (.int .u64 lk)
                    replace bs := bs.far (p := ⟨gx, 0, none⟩) (by have := HGX.out; show b + 1 ≠ gx; omega) (.bool inn)
                    replace bs := bs.far (p := ⟨gx, 1, none⟩) (by have := HGX.out; show b + 1 ≠ gx; omega) (.slice none 0 0)
                    replace bs := bs.far (p := ⟨gx, 2, none⟩) (by have := HGX.out; show b + 1 ≠ gx; omega) (.slice none 0 0)
                    replace bs := bs.far (p := ⟨gx, 3, none⟩) (by have := HGX.out; show b + 1 ≠ gx; omega) (.int .u64 lk)
                    replace bx := bx.far (p := ⟨gx, 0, none⟩) (by have := HGX.out; show b + 1 + 1 ≠ gx; omega) (.bool inn)
                    replace bx := bx.far (p := ⟨gx, 1, none⟩) (by have := HGX.out; show b + 1 + 1 ≠ gx; omega) (.slice none 0 0)
                    replace bx := bx.far (p := ⟨gx, 2, none⟩) (by have := HGX.out; show b + 1 + 1 ≠ gx; omega) (.slice none 0 0)
                    replace bx := bx.far (p := ⟨gx, 3, none⟩) (by have := HGX.out; show b + 1 + 1 ≠ gx; omega) (.int .u64 lk)
                    have HGN := hide (show gm ≠ gx ∧ gw ≠ gx by have := HGM.out; omega)
                    replace M := M.grown (grown_set _ gx 0 (.bool inn)) (fun e => by injection e with e; exact HGN.out.1 e) (fun e => by injection e with e; exact HGN.out.2 e)
                    replace M := M.grown (grown_set _ gx 1 (.slice none 0 0)) (fun e => by injection e with e; exact HGN.out.1 e) (fun e => by injection e with e; exact HGN.out.2 e)
                    replace M := M.grown (grown_set _ gx 2 (.slice none 0 0)) (fun e => by injection e with e; exact HGN.out.1 e) (fun e => by injection e with e; exact HGN.out.2 e)
                    replace M := M.grown (grown_set _ gx 3 (.int .u64 lk)) (fun e => by injection e with e; exact HGN.out.1 e) (fun e => by injection e with e; exact HGN.out.2 e)
                    replace B := below_setN (g := gx) B (by have h1 := HGX.out; have h2 := HBE.out; omega) (.bool inn) (.slice none 0 0) (.slice none 0 0) (.int .u64 lk)
                    replace bn := bn.setN (.bool inn) (.slice none 0 0) (.slice none 0 0) (.int .u64 lk)
                    generalize (((w5.setCell ⟨gx, 0, none⟩ (.bool inn)).setCell ⟨gx, 1, none⟩ (.slice none 0 0)).setCell ⟨gx, 2, none⟩ (.slice none 0 0)).setCell ⟨gx, 3, none⟩ (.int .u64 lk) = w7 at *
                    go_wp2_with fail
                    go_meet
                    exact ⟨gx, rfl, bn, M, bm, bs, bx, B, HGN.out, HGX.out⟩
                  exact AllReadyZ.nil
                exact AllReadyZ.nil
              exact AllReadyZ.nil
            exact AllReadyZ.nil
          exact AllReadyZ.nil
        case rest =>
          obtain ⟨gx, rfl, ⟨bn, M, bm, bs, bx, B, g1, g2⟩⟩ := hcut
          have HGX := hide g2
          have HGN := hide g1
          clear g1 g2
          have HNN := hide (show N ≤ 64 by have h1 := HNf.out; have h2 := HT.out; omega)
          generalize hq : (N : Int) = q
          have hq0 : 0 ≤ q := by omega
          have hq1 : q ≤ 64 := by have := HNN.out; omega
          have HQ := hide hq
          clear hq
          have fin : ∀ (w7 : World) (A1 : Option Addr) (c1 : Nat) (A2 : Option Addr) (c2 : Nat), w7.ownsRow b 32 1 (.slice A1 NK c1) NK (ints .u64 (rowL ws gk NK)) → w7.ownsRow b 32 1 (.slice A2 N c2) N (ints .u64 (rowL ws gv N)) → NdO w7 b (.agg #[.bool inn, .slice A1 NK c1, .slice A2 N c2, .int .u64 lk]) inn ks vs lk := by
            intro w7 A1 c1 A2 c2 o1 o2
            rw [HKE.out, HVE.out]
            exact ⟨_, _, rfl, by show w7.ownsRow _ _ _ _ _ _; rw [rowL_len]; exact o1, by show w7.ownsRow _ _ _ _ _ _; rw [rowL_len]; exact o2⟩
          have FIN := hide fin
          clear fin
          cases inn with
          | false =>
            have HKN := hide (show NK ≤ N ∧ q = (NK : Int) by have h1 := HNK.out; have h2 := HQ.out; simp at h1; omega)
            have mn := fun j => bn.cell j
            have mm := bm.cell 0
            go_wp2_with fail
            clear mn mm
            try clear hmax
            refine (RK.out b NK q HKN.out.1 HKN.out.2 _ M bm bs).mono ?_
            rintro e w7 ⟨⟨A1, c1, rfl, o1⟩, hb1⟩
            replace bn := bn.below hb1 bn.lt
            replace o1 := own_mono (B' := b) o1 (by have h1 := B.size; have h2 := HBE.out; omega)
            replace M := M.below hb1
            replace bm := bm.below hb1 bm.lt
            replace bs := bs.below hb1 bs.lt
            replace bx := bx.below hb1 bx.lt
            replace B := B.trans (hb1.mono B.size)
            clear hb1
            have zn := fun j => bn.frozen j
            have mn := fun j => bn.cell j
            have mm := bm.cell 0
            have n1 := (show b ≠ gx by have := HGX.out; omega)
            have n2 := n1.symm
            go_wp2_with fail
            clear zn mm mn
            replace o1 := own_setT o1 bn (by decide) 1 (.slice A1 NK c1)
            replace bm := bm.far (p := ⟨gx, 1, none⟩) (by have := HGX.out; show b ≠ gx; omega) (.slice A1 NK c1)
            replace bs := bs.far (p := ⟨gx, 1, none⟩) (by have := HGX.out; show b + 1 ≠ gx; omega) (.slice A1 NK c1)
            replace bx := bx.far (p := ⟨gx, 1, none⟩) (by have := HGX.out; show b + 1 + 1 ≠ gx; omega) (.slice A1 NK c1)
            replace M := M.grown (grown_set _ gx 1 (.slice A1 NK c1)) (fun e => by injection e with e; exact HGN.out.1 e) (fun e => by injection e with e; exact HGN.out.2 e)
            replace B := B.setCell (p := ⟨gx, 1, none⟩) (by have h1 := HGX.out; have h2 := HBE.out; show w.heap.size ≤ gx; omega) (.slice A1 NK c1)
            replace bn := bn.setK (.slice A1 NK c1)
            generalize w7.setCell ⟨gx, 1, none⟩ (.slice A1 NK c1) = w8 at *
            refine (RV.out b N q (Nat.le_refl _) HQ.out.symm _ M bm bs).mono ?_
            rintro e w9 ⟨⟨A2, c2, rfl, o2⟩, hb1⟩
            replace bn := bn.below hb1 bn.lt
            replace o1 := own_below o1 hb1
            replace o2 := own_mono (B' := b) o2 (by have h1 := B.size; have h2 := HBE.out; omega)
            replace M := M.below hb1
            replace bm := bm.below hb1 bm.lt
            replace bs := bs.below hb1 bs.lt
            replace bx := bx.below hb1 bx.lt
            replace B := B.trans (hb1.mono B.size)
            clear hb1
            have zn := fun j => bn.frozen j
            have mn := fun j => bn.cell j
            have zx := fun j => bx.frozen j
            have mx := fun j => bx.cell j
            have n3 := (show b + 1 + 1 ≠ gx by have := HGX.out; omega)
            have n4 := n3.symm
            go_wp2_with fail
            clear zn mn zx mx
            replace o1 := own_setT o1 bn (by decide) 2 (.slice A2 N c2)
            replace o2 := own_setT o2 bn (by decide) 2 (.slice A2 N c2)
            replace bm := bm.far (p := ⟨gx, 2, none⟩) (by have := HGX.out; show b ≠ gx; omega) (.slice A2 N c2)
            replace bs := bs.far (p := ⟨gx, 2, none⟩) (by have := HGX.out; show b + 1 ≠ gx; omega) (.slice A2 N c2)
            replace bx := bx.far (p := ⟨gx, 2, none⟩) (by have := HGX.out; show b + 1 + 1 ≠ gx; omega) (.slice A2 N c2)
            replace M := M.grown (grown_set _ gx 2 (.slice A2 N c2)) (fun e => by injection e with e; exact HGN.out.1 e) (fun e => by injection e with e; exact HGN.out.2 e)
            replace B := B.setCell (p := ⟨gx, 2, none⟩) (by have h1 := HGX.out; have h2 := HBE.out; show w.heap.size ≤ gx; omega) (.slice A2 N c2)
            replace bn := bn.setV (.slice A2 N c2)
            have o10 := own_setT o1 bx (by decide) 0 (.bool false)
            have o20 := own_setT o2 bx (by decide) 0 (.bool false)
            have x0 := bx.set_ 0 (.bool false)
            have o11 := own_setT o10 x0 (by decide) 1 (.slice A1 NK c1)
            have o21 := own_setT o20 x0 (by decide) 1 (.slice A1 NK c1)
            have x1 := x0.set_ 1 (.slice A1 NK c1)
            have o12 := own_setT o11 x1 (by decide) 2 (.slice A2 N c2)
            have o22 := own_setT o21 x1 (by decide) 2 (.slice A2 N c2)
            have x2 := x1.set_ 2 (.slice A2 N c2)
            have o13 := own_setT o12 x2 (by decide) 3 (.int .u64 lk)
            have o23 := own_setT o22 x2 (by decide) 3 (.int .u64 lk)
            have x3 := x2.set_ 3 (.int .u64 lk)
            have C9 := below_setN (g := b + 1 + 1) B (by have h2 := HBE.out; omega) (.bool false) (.slice A1 NK c1) (.slice A2 N c2) (.int .u64 lk)
            have m9 := fun j => x3.cell j
            refine bodyPost_ret (v := .agg #[.bool false, .slice A1 NK c1, .slice A2 N c2, .int .u64 lk]) (by simp [results, Tryz.results40, go_sem, m9, List.setIfInBounds_toArray]) rfl ⟨⟨_, rfl, by rw [← HBE.out]; exact FIN.out _ A1 c1 A2 c2 o13 o23⟩, by first | exact C9 | (rw [HBE.out]; exact C9)⟩
          | true =>
            rcases Int.lt_or_le 1 q with h1 | h1
            · skip
              have HKN := hide (show NK ≤ N ∧ q - 1 = (NK : Int) by have h1 := HNK.out; have h2 := HQ.out; simp at h1; omega)
              have hmax : max (0 : Int) (q - 1) = q - 1 := by omega
              have mn := fun j => bn.cell j
              have mm := bm.cell 0
              go_wp2_with fail
              clear mn mm
              try clear hmax
              refine (RK.out b NK (q - 1) HKN.out.1 HKN.out.2 _ M bm bs).mono ?_
              rintro e w7 ⟨⟨A1, c1, rfl, o1⟩, hb1⟩
              replace bn := bn.below hb1 bn.lt
              replace o1 := own_mono (B' := b) o1 (by have h1 := B.size; have h2 := HBE.out; omega)
              replace M := M.below hb1
              replace bm := bm.below hb1 bm.lt
              replace bs := bs.below hb1 bs.lt
              replace bx := bx.below hb1 bx.lt
              replace B := B.trans (hb1.mono B.size)
              clear hb1
              have zn := fun j => bn.frozen j
              have mn := fun j => bn.cell j
              have mm := bm.cell 0
              have n1 := (show b ≠ gx by have := HGX.out; omega)
              have n2 := n1.symm
              go_wp2_with fail
              clear zn mm mn
              replace o1 := own_setT o1 bn (by decide) 1 (.slice A1 NK c1)
              replace bm := bm.far (p := ⟨gx, 1, none⟩) (by have := HGX.out; show b ≠ gx; omega) (.slice A1 NK c1)
              replace bs := bs.far (p := ⟨gx, 1, none⟩) (by have := HGX.out; show b + 1 ≠ gx; omega) (.slice A1 NK c1)
              replace bx := bx.far (p := ⟨gx, 1, none⟩) (by have := HGX.out; show b + 1 + 1 ≠ gx; omega) (.slice A1 NK c1)
              replace M := M.grown (grown_set _ gx 1 (.slice A1 NK c1)) (fun e => by injection e with e; exact HGN.out.1 e) (fun e => by injection e with e; exact HGN.out.2 e)
              replace B := B.setCell (p := ⟨gx, 1, none⟩) (by have h1 := HGX.out; have h2 := HBE.out; show w.heap.size ≤ gx; omega) (.slice A1 NK c1)
              replace bn := bn.setK (.slice A1 NK c1)
              generalize w7.setCell ⟨gx, 1, none⟩ (.slice A1 NK c1) = w8 at *
              refine (RV.out b N q (Nat.le_refl _) HQ.out.symm _ M bm bs).mono ?_
              rintro e w9 ⟨⟨A2, c2, rfl, o2⟩, hb1⟩
              replace bn := bn.below hb1 bn.lt
              replace o1 := own_below o1 hb1
              replace o2 := own_mono (B' := b) o2 (by have h1 := B.size; have h2 := HBE.out; omega)
              replace M := M.below hb1
              replace bm := bm.below hb1 bm.lt
              replace bs := bs.below hb1 bs.lt
              replace bx := bx.below hb1 bx.lt
              replace B := B.trans (hb1.mono B.size)
              clear hb1
              have zn := fun j => bn.frozen j
              have mn := fun j => bn.cell j
              have zx := fun j => bx.frozen j
              have mx := fun j => bx.cell j
              have n3 := (show b + 1 + 1 ≠ gx by have := HGX.out; omega)
              have n4 := n3.symm
              go_wp2_with fail
              clear zn mn zx mx
              replace o1 := own_setT o1 bn (by decide) 2 (.slice A2 N c2)
              replace o2 := own_setT o2 bn (by decide) 2 (.slice A2 N c2)
              replace bm := bm.far (p := ⟨gx, 2, none⟩) (by have := HGX.out; show b ≠ gx; omega) (.slice A2 N c2)
              replace bs := bs.far (p := ⟨gx, 2, none⟩) (by have := HGX.out; show b + 1 ≠ gx; omega) (.slice A2 N c2)
              replace bx := bx.far (p := ⟨gx, 2, none⟩) (by have := HGX.out; show b + 1 + 1 ≠ gx; omega) (.slice A2 N c2)
              replace M := M.grown (grown_set _ gx 2 (.slice A2 N c2)) (fun e => by injection e with e; exact HGN.out.1 e) (fun e => by injection e with e; exact HGN.out.2 e)
              replace B := B.setCell (p := ⟨gx, 2, none⟩) (by have h1 := HGX.out; have h2 := HBE.out; show w.heap.size ≤ gx; omega) (.slice A2 N c2)
              replace bn := bn.setV (.slice A2 N c2)
              have o10 := own_setT o1 bx (by decide) 0 (.bool true)
              have o20 := own_setT o2 bx (by decide) 0 (.bool true)
              have x0 := bx.set_ 0 (.bool true)
              have o11 := own_setT o10 x0 (by decide) 1 (.slice A1 NK c1)
              have o21 := own_setT o20 x0 (by decide) 1 (.slice A1 NK c1)
              have x1 := x0.set_ 1 (.slice A1 NK c1)
              have o12 := own_setT o11 x1 (by decide) 2 (.slice A2 N c2)
              have o22 := own_setT o21 x1 (by decide) 2 (.slice A2 N c2)
              have x2 := x1.set_ 2 (.slice A2 N c2)
              have o13 := own_setT o12 x2 (by decide) 3 (.int .u64 lk)
              have o23 := own_setT o22 x2 (by decide) 3 (.int .u64 lk)
              have x3 := x2.set_ 3 (.int .u64 lk)
              have C9 := below_setN (g := b + 1 + 1) B (by have h2 := HBE.out; omega) (.bool true) (.slice A1 NK c1) (.slice A2 N c2) (.int .u64 lk)
              have m9 := fun j => x3.cell j
              refine bodyPost_ret (v := .agg #[.bool true, .slice A1 NK c1, .slice A2 N c2, .int .u64 lk]) (by simp [results, Tryz.results40, go_sem, m9, List.setIfInBounds_toArray]) rfl ⟨⟨_, rfl, by rw [← HBE.out]; exact FIN.out _ A1 c1 A2 c2 o13 o23⟩, by first | exact C9 | (rw [HBE.out]; exact C9)⟩
            · skip
              have HKN := hide (show NK ≤ N ∧ 0 = (NK : Int) by have h1 := HNK.out; have h2 := HQ.out; simp at h1; omega)
              have hmax : max (0 : Int) (q - 1) = 0 := by omega
              have mn := fun j => bn.cell j
              have mm := bm.cell 0
              go_wp2_with fail
              clear mn mm
              try clear hmax
              refine (RK.out b NK 0 HKN.out.1 HKN.out.2 _ M bm bs).mono ?_
              rintro e w7 ⟨⟨A1, c1, rfl, o1⟩, hb1⟩
              replace bn := bn.below hb1 bn.lt
              replace o1 := own_mono (B' := b) o1 (by have h1 := B.size; have h2 := HBE.out; omega)
              replace M := M.below hb1
              replace bm := bm.below hb1 bm.lt
              replace bs := bs.below hb1 bs.lt
              replace bx := bx.below hb1 bx.lt
              replace B := B.trans (hb1.mono B.size)
              clear hb1
              have zn := fun j => bn.frozen j
              have mn := fun j => bn.cell j
              have mm := bm.cell 0
              have n1 := (show b ≠ gx by have := HGX.out; omega)
              have n2 := n1.symm
              go_wp2_with fail
              clear zn mm mn
              replace o1 := own_setT o1 bn (by decide) 1 (.slice A1 NK c1)
              replace bm := bm.far (p := ⟨gx, 1, none⟩) (by have := HGX.out; show b ≠ gx; omega) (.slice A1 NK c1)
              replace bs := bs.far (p := ⟨gx, 1, none⟩) (by have := HGX.out; show b + 1 ≠ gx; omega) (.slice A1 NK c1)
              replace bx := bx.far (p := ⟨gx, 1, none⟩) (by have := HGX.out; show b + 1 + 1 ≠ gx; omega) (.slice A1 NK c1)
              replace M := M.grown (grown_set _ gx 1 (.slice A1 NK c1)) (fun e => by injection e with e; exact HGN.out.1 e) (fun e => by injection e with e; exact HGN.out.2 e)
              replace B := B.setCell (p := ⟨gx, 1, none⟩) (by have h1 := HGX.out; have h2 := HBE.out; show w.heap.size ≤ gx; omega) (.slice A1 NK c1)
              replace bn := bn.setK (.slice A1 NK c1)
              generalize w7.setCell ⟨gx, 1, none⟩ (.slice A1 NK c1) = w8 at *
              refine (RV.out b N q (Nat.le_refl _) HQ.out.symm _ M bm bs).mono ?_
              rintro e w9 ⟨⟨A2, c2, rfl, o2⟩, hb1⟩
              replace bn := bn.below hb1 bn.lt
              replace o1 := own_below o1 hb1
              replace o2 := own_mono (B' := b) o2 (by have h1 := B.size; have h2 := HBE.out; omega)
              replace M := M.below hb1
              replace bm := bm.below hb1 bm.lt
              replace bs := bs.below hb1 bs.lt
              replace bx := bx.below hb1 bx.lt
              replace B := B.trans (hb1.mono B.size)
              clear hb1
              have zn := fun j => bn.frozen j
              have mn := fun j => bn.cell j
              have zx := fun j => bx.frozen j
              have mx := fun j => bx.cell j
              have n3 := (show b + 1 + 1 ≠ gx by have := HGX.out; omega)
              have n4 := n3.symm
              go_wp2_with fail
              clear zn mn zx mx
              replace o1 := own_setT o1 bn (by decide) 2 (.slice A2 N c2)
              replace o2 := own_setT o2 bn (by decide) 2 (.slice A2 N c2)
              replace bm := bm.far (p := ⟨gx, 2, none⟩) (by have := HGX.out; show b ≠ gx; omega) (.slice A2 N c2)
              replace bs := bs.far (p := ⟨gx, 2, none⟩) (by have := HGX.out; show b + 1 ≠ gx; omega) (.slice A2 N c2)
              replace bx := bx.far (p := ⟨gx, 2, none⟩) (by have := HGX.out; show b + 1 + 1 ≠ gx; omega) (.slice A2 N c2)
              replace M := M.grown (grown_set _ gx 2 (.slice A2 N c2)) (fun e => by injection e with e; exact HGN.out.1 e) (fun e => by injection e with e; exact HGN.out.2 e)
              replace B := B.setCell (p := ⟨gx, 2, none⟩) (by have h1 := HGX.out; have h2 := HBE.out; show w.heap.size ≤ gx; omega) (.slice A2 N c2)
              replace bn := bn.setV (.slice A2 N c2)
              have o10 := own_setT o1 bx (by decide) 0 (.bool true)
              have o20 := own_setT o2 bx (by decide) 0 (.bool true)
              have x0 := bx.set_ 0 (.bool true)
              have o11 := own_setT o10 x0 (by decide) 1 (.slice A1 NK c1)
              have o21 := own_setT o20 x0 (by decide) 1 (.slice A1 NK c1)
              have x1 := x0.set_ 1 (.slice A1 NK c1)
              have o12 := own_setT o11 x1 (by decide) 2 (.slice A2 N c2)
              have o22 := own_setT o21 x1 (by decide) 2 (.slice A2 N c2)
              have x2 := x1.set_ 2 (.slice A2 N c2)
              have o13 := own_setT o12 x2 (by decide) 3 (.int .u64 lk)
              have o23 := own_setT o22 x2 (by decide) 3 (.int .u64 lk)
              have x3 := x2.set_ 3 (.int .u64 lk)
              have C9 := below_setN (g := b + 1 + 1) B (by have h2 := HBE.out; omega) (.bool true) (.slice A1 NK c1) (.slice A2 N c2) (.int .u64 lk)
              have m9 := fun j => x3.cell j
              refine bodyPost_ret (v := .agg #[.bool true, .slice A1 NK c1, .slice A2 N c2, .int .u64 lk]) (by simp [results, Tryz.results40, go_sem, m9, List.setIfInBounds_toArray]) rfl ⟨⟨_, rfl, by rw [← HBE.out]; exact FIN.out _ A1 c1 A2 c2 o13 o23⟩, by first | exact C9 | (rw [HBE.out]; exact C9)⟩
      exact AllReadyZ.nil
    exact AllReadyZ.nil
  exact AllReadyZ.nil
end Go.Proofs.YtlnckjemfabckaaGreatDoor

