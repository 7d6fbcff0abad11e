/-
  memory.All; the example of chapter 9.
-/
import Derived.Test.YtpkocgcagemnbaaDoorMemoC
import Derived.Deep.LoopGhost
namespace Go.Proofs.YtpkocgcagemnbaaDoor
open Go.RowKit
attribute [local go_sem] past_cell past_cell_add

/-- Accesses as cells. -/
def rec4 (l : List (Int × Int × Int × Int)) : List Value := l.flatMap fun r => [.int .i64 r.1, .int .i64 r.2.1, .int .u64 r.2.2.1, .int .u64 r.2.2.2]
theorem rec4_len (l : List (Int × Int × Int × Int)) : (rec4 l).length = l.length * 4 := by
  induction l with
  | nil => rfl
  | cons r l ih =>
    have : (rec4 (r :: l)) = .int .i64 r.1 :: .int .i64 r.2.1 :: .int .u64 r.2.2.1 :: .int .u64 r.2.2.2 :: rec4 l := rfl
    rw [this]
    simp only [List.length_cons, ih]
    omega
theorem rec4_get (l : List (Int × Int × Int × Int)) : ∀ (k : Nat) (h : k < l.length), (rec4 l)[k * 4]? = some (.int .i64 l[k].1) ∧ (rec4 l)[k * 4 + 1]? = some (.int .i64 l[k].2.1) ∧ (rec4 l)[k * 4 + 2]? = some (.int .u64 l[k].2.2.1) ∧ (rec4 l)[k * 4 + 3]? = some (.int .u64 l[k].2.2.2) := by
  induction l with
  | nil => intro k h; simp at h
  | cons r l ih =>
    intro k h
    cases k with
    | zero => simp [rec4]
    | succ k =>
      have := ih k (by simpa using h)
      have e1 : (k + 1) * 4 = k * 4 + 4 := by omega
      have e2 : (k + 1) * 4 + 1 = k * 4 + 1 + 4 := by omega
      have e3 : (k + 1) * 4 + 2 = k * 4 + 2 + 4 := by omega
      have e4 : (k + 1) * 4 + 3 = k * 4 + 3 + 4 := by omega
      simpa [rec4, e1, e2, e3, e4] using this
theorem Reads.ask {w : World} {B n k : Nat} {A : Option Addr} {l : List (Int × Int × Int × Int)} (h : Reads w B 4 A n (rec4 l)) (hk : k < n) :
    ∃ a, A = some a ∧ a.block < B ∧ ∃ hl : k < l.length, w.cell? (a.add (k * 4)) = some (.int .i64 l[k].1) ∧ w.cell? ⟨(a.add (k * 4)).block, (a.add (k * 4)).off + 1, none⟩ = some (.int .i64 l[k].2.1) ∧
      w.cell? ⟨(a.add (k * 4)).block, (a.add (k * 4)).off + 2, none⟩ = some (.int .u64 l[k].2.2.1) ∧ w.cell? ⟨(a.add (k * 4)).block, (a.add (k * 4)).off + 3, none⟩ = some (.int .u64 l[k].2.2.2) := by
  have hl : k < l.length := by
    have := h.1
    rw [rec4_len] at this
    omega
  obtain ⟨a, ha, hb, x, y⟩ := h.row hk
  obtain ⟨y0, y1, y2, y3⟩ := rec4_get l k hl
  exact ⟨a, ha, hb, hl, (x (by omega)).trans y0, (y 1 (by omega) (by omega)).trans y1, (y 2 (by omega) (by omega)).trans y2, (y 3 (by omega) (by omega)).trans y3⟩
theorem Reads.lenAsk {w : World} {B n : Nat} {A : Option Addr} {l : List (Int × Int × Int × Int)} (h : Reads w B 4 A n (rec4 l)) : l.length = n := by
  have := h.1
  rw [rec4_len] at this
  omega
theorem Reads.grownG {w w' : World} {B s n g : Nat} {A : Option Addr} {xs : List Value} (h : Reads w B s A n xs) (hg : w.grownBy w' (some g)) (hB : B ≤ w.heap.size) (hne : ∀ ad, A = some ad → ad.block ≠ g) : Reads w' B s A n xs := by
  refine ⟨h.1, fun hn => ?_⟩
  obtain ⟨ad, rfl, hb, hc⟩ := h.2 hn
  refine ⟨ad, rfl, hb, fun j u hu => ?_⟩
  rw [World.cell?_of_block (w := w) (hg.block _ (by rw [block_of_add]; omega) (by rw [block_of_add]; intro e; exact hne ad rfl (by injection e)))]
  exact hc j u hu

/-- What some accesses tell, and what they leave. -/
def mAll (ws : List Int) (l : List (Int × Int × Int × Int)) : Nat → List Int × List Int
  | 0 => ([], ws)
  | k + 1 => let s := mAll ws l k; let r := l.getD k (0, 0, 0, 0); let x := mDo s.2 r.1 r.2.1 r.2.2.1 r.2.2.2; (s.1 ++ [x.1], x.2)
theorem mAll_len (ws : List Int) (l : List (Int × Int × Int × Int)) : ∀ k, (mAll ws l k).1.length = k
  | 0 => rfl
  | k + 1 => by
    show ((mAll ws l k).1 ++ _).length = _
    rw [List.length_append, mAll_len ws l k]
    rfl
theorem own_ne_row {w : World} {base g s n : Nat} {e : TypeId} {v : Value} {xs : List Value} (h : w.ownsRow base e s v n xs) (hg : g < base) : v.ownBlock = none ∨ v.ownBlock ≠ some g := by
  cases hv : v.ownBlock with
  | none => exact .inl rfl
  | some k =>
    right
    have := (h.lt k hv).1
    intro e
    injection e with e
    omega
theorem own_ne_row' {w : World} {base g s n : Nat} {e : TypeId} {v : Value} {xs : List Value} (h : w.ownsRow base e s v n xs) (hg : g < base) : some g ≠ v.ownBlock := by
  rcases own_ne_row h hg with hv | hv
  · rw [hv]
    simp
  · exact fun e => hv e.symm
theorem grown_own {w w1 w2 : World} {base g s n : Nat} {e : TypeId} {v : Value} {xs : List Value} (h : w.grownBy w1 (some g)) (ho : w1.ownsRow base e s v n xs) (hb : w.heap.size ≤ base) (hg : w1.grownBy w2 v.ownBlock) : w.grownBy w2 (some g) :=
  ⟨hg.os.trans h.os, hg.tape.trans h.tape, hg.output.trans h.output, Nat.le_trans h.size hg.size, fun k hk hr => (hg.block k (Nat.lt_of_lt_of_le hk h.size) (own_ne_row' ho (by omega))).trans (h.block k hk hr)⟩
def AllIn (ws : List Int) (l : List (Int × Int × Int × Int)) (gm gw : Nat) (s t f c p : Int) (w : World) (v i : Value) (wr : World) : Prop :=
  ∃ (k : Nat) (A1 : Option Addr) (n1 c1 : Nat), i = .int .i64 k ∧ k ≤ l.length ∧ v = .slice A1 n1 c1 ∧ n1 = k ∧ wr.ownsRow w.heap.size 43 1 (.slice A1 n1 c1) n1 (ints .u64 (mAll ws l k).1) ∧ MemOk wr gm gw s t f c p (mAll ws l k).2 ∧ w.grownBy wr (some gw)
set_option maxHeartbeats 2000000 in
theorem all_any (gm gw : Nat) (s t f c0 p : Int) (A : Option Addr) (n c : Nat) (ws : List Int) (l : List (Int × Int × Int × Int)) (w : World) (hn : n ≤ 1000) (hm : MemOk w gm gw s t f c0 p ws) (hr : Reads w w.heap.size 4 A n (rec4 l)) (hne : ∀ ad, A = some ad → ad.block ≠ gw) :
    Calls Tryd.prog 50 #[.pointer (some ⟨gm, 0, none⟩), .slice A n c] w fun e w' => (∃ v, e = .returned v ∧ Own w' w.heap.size v (mAll ws l n).1) ∧ MemOk w' gm gw s t f c0 p (mAll ws l n).2 ∧ w.grownBy w' (some gw) := by
  obtain ⟨i0, hi0, hz0, hs0, hb0⟩ := info_parts infoU64
  have hln := hr.lenAsk
  have lgw : gw < w.heap.size := hm.2.1.lt
  have HM := hide hm
  have HR := hide hr
  have HL := hide hln
  have HNE := hide hne
  clear hm hr hln hne
  go_enter Tryd.func50, Tryd.ntmps50
  go_wp2_with fail
  go_loopw [5, 10] (AllIn ws l gm gw s t f c0 p w) (fun _ i _ => n - (intOf i).toNat)
  case atStart => exact ⟨0, none, 0, 0, rfl, by omega, rfl, rfl, World.ownsRow_nil _ _ _ _, HM.out, World.grownBy.refl _ _⟩
  case round =>
    obtain ⟨k, A1, n1, c1, rfl, hk, rfl, hn1, hown, hmem, hg⟩ := hrel
    have HMem := hide hmem
    have HG := hide hg
    have HN1 := hide hn1
    clear hmem hg hn1
    by_cases hlt : k < n
    · obtain ⟨a, rfl, hab, hkl, z0, z1, z2, z3⟩ := (HR.out.grownG HG.out (Nat.le_refl _) HNE.out).ask hlt
      have hs : mAll ws l (k + 1) = ((mAll ws l k).1 ++ [(mDo (mAll ws l k).2 l[k].1 l[k].2.1 l[k].2.2.1 l[k].2.2.2).1], (mDo (mAll ws l k).2 l[k].1 l[k].2.1 l[k].2.2.1 l[k].2.2.2).2) := by
        show (let s := mAll ws l k; let r := l.getD k (0, 0, 0, 0); let x := mDo s.2 r.1 r.2.1 r.2.2.1 r.2.2.2; (s.1 ++ [x.1], x.2)) = _
        rw [show l.getD k (0, 0, 0, 0) = l[k] by simp [List.getD, hkl]]
      have HS := hide hs
      clear hs
      have hsz := HG.out.size
      have hn1k : n1 ≤ 4294967296 := by rw [HN1.out]; omega
      have D := hide (fun w2 hm => do_any gm gw s t f c0 p l[k].1 l[k].2.1 l[k].2.2.1 l[k].2.2.2 (mAll ws l k).2 w2 hm)
      generalize (mDo (mAll ws l k).2 l[k].1 l[k].2.1 l[k].2.2.1 l[k].2.2.2).1 = x at *
      generalize (mDo (mAll ws l k).2 l[k].1 l[k].2.1 l[k].2.2.1 l[k].2.2.2).2 = ws2 at *
      generalize l[k].1 = q0 at *
      generalize l[k].2.1 = q1 at *
      generalize l[k].2.2.1 = q2 at *
      generalize l[k].2.2.2 = q3 at *
      go_wp2_with fail
      have B1 := (Below.refl wr.heap.size wr).alloc (Nat.le_refl _) (.cells #[.int .i64 q0, .int .i64 q1, .int .u64 q2, .int .u64 q3] 46)
      refine (D.out _ (HMem.out.below B1)).mono ?_
      rintro e w2 ⟨rfl, hm2, hg2⟩
      have hown2 := (own_below hown B1).kept hg2 (own_ne_row hown lgw)
      have HM2 := hide hm2
      have HG2 := hide (grown_trans HG.out (grown_trans (grown_below B1 _) hg2))
      clear hm2 hg2 hown
      have lgm := HM.out.1.lt
      have hsz2 := HG2.out.size
      have ho1 := hown2.alloc (.cells #[.int .u64 x] 43)
      go_wp2_with (at_builtin; refine wpList_append_one rfl (.tmp 14) (.tmp 18) _ rfl w.heap.size 43 i0 _ 1 8 Tryd.underlying41 hi0 hz0 hs0 hb0 rfl (by omega) (by omega) (.slice A1 n1 c1) n1 _ rfl ho1 w2.heap.size #[.int .u64 x] rfl (Blk.new _ _ _) rfl rfl hn1k (by simp; omega) ?_; intro A3 c3 w3 hown3 hg3 hat3)
      go_roundw
      case measure => simp [intOf]; omega
      case rel => exact ⟨k + 1, A3, n1 + 1, c3, by go_num, by have := HL.out; omega, rfl, by have := HN1.out; omega, by rw [HS.out, ints_append]; exact hown3, by rw [HS.out]; exact (HM2.out.below ((Below.refl _ _).alloc (Nat.le_refl _) _)).grown hg3 (own_ne_row' ho1 lgm) (own_ne_row' ho1 lgw), grown_own (grown_trans HG2.out (grown_below ((Below.refl _ _).alloc (Nat.le_refl _) _) _)) ho1 (Nat.le_refl _) hg3⟩
    · obtain rfl : k = n := by have := HL.out; omega
      go_wp2_with fail
      go_ret
      exact ⟨⟨_, rfl, Own.of hown⟩, HMem.out, HG.out⟩
end Go.Proofs.YtpkocgcagemnbaaDoor
