/-
  memory.put, Word, Write of a memory that stands.
-/
import Derived.Test.YtpkocgcagemnbaaDoorMemoE
namespace Go.Proofs.YtpkocgcagemnbaaDoor
open Go.RowKit
attribute [local go_sem] past_cell past_cell_add

theorem keepG {w w' : World} {g : Nat} (hg : w.grownBy w' (some g)) {p : Addr} {v : Value} (h : w.cell? p = some v) (hne : p.block ≠ g) : w'.cell? p = some v :=
  (World.cell?_of_block (hg.block _ (World.block_lt_of_cell? w p h) (fun e => hne (by injection e)))).trans h
theorem MemOk.no {gm gw : Nat} {s t f l p a : Int} {ws : List Int} {w : World} (hm : MemOk w gm gw s t f l p ws) (h : ¬ (0 ≤ a ∧ a < ws.length)) : NoWord w (.pointer (some ⟨gm, 0, none⟩)) a :=
  .inr ⟨gm, _, _, rfl, hm.words, by omega⟩
theorem put_any (gm gw : Nat) (s t f l p a x : Int) (ws : List Int) (w : World) (hm : MemOk w gm gw s t f l p ws) :
    Calls Tryd.prog 51 #[.pointer (some ⟨gm, 0, none⟩), .int .i64 a, .int .u64 x] w fun e w' => (∃ v, e = .returned v) ∧ MemOk w' gm gw s t f l p (wPut ws a x) ∧ w.grownBy w' (some gw) := by
  by_cases hin : 0 ≤ a ∧ a < ws.length
  · obtain ⟨j, rfl⟩ := Int.eq_ofNat_of_zero_le hin.1
    have hj : j < ws.length := by omega
    rw [wPut_at hj]
    exact (put_t gm gw ws.length j x (ws.getD j 0) w hm.words hj (hm.at_ hj) (hm.2.1.frozen j)).mono fun e w' ⟨he, hw⟩ => by
      subst hw
      exact ⟨he, hm.set_ j x, grown_set w gw j _⟩
  · unfold wPut
    rw [if_neg hin]
    exact (put_f _ a x w (hm.no hin)).mono fun e w' ⟨he, hw⟩ => by
      subst hw
      exact ⟨he, hm, World.grownBy.refl _ _⟩
theorem word_any (gm gw : Nat) (s t f l p a : Int) (ws : List Int) (w : World) (hm : MemOk w gm gw s t f l p ws) :
    Calls Tryd.prog 32 #[.pointer (some ⟨gm, 0, none⟩), .int .i64 a] w fun e w' => e = .returned (.int .u64 (wGet ws a)) ∧ w = w' := by
  by_cases hin : 0 ≤ a ∧ a < ws.length
  · obtain ⟨j, rfl⟩ := Int.eq_ofNat_of_zero_le hin.1
    have hj : j < ws.length := by omega
    rw [wGet_at hj]
    exact word_t gm gw ws.length j _ w hm.words hj (hm.at_ hj)
  · unfold wGet
    rw [if_neg hin]
    exact word_f _ a w (hm.no hin)

/-- What some writes leave. -/
def mWri (ws : List Int) (l : List (Int × Int)) : Nat → List Int
  | 0 => ws
  | k + 1 => wPut (mWri ws l k) (l.getD k (0, 0)).1 (l.getD k (0, 0)).2
theorem mWri_len (ws : List Int) (l : List (Int × Int)) : ∀ k, (mWri ws l k).length = ws.length
  | 0 => rfl
  | k + 1 => by
    show (wPut _ _ _).length = _
    rw [wPut_len, mWri_len ws l k]
theorem Reads.grownH {w w' : World} {B s n g : Nat} {A : Option Addr} {xs : List Value} (h : Reads w B s A n xs) (hg : w.grownBy w' (some g)) (hB : B ≤ w.heap.size) (hne : 0 < n → ∀ ad, A = some ad → ad.block ≠ g) : Reads w' B s A n xs := by
  refine ⟨h.1, fun hn => ?_⟩
  obtain ⟨ad, rfl, hb, hc⟩ := h.2 hn
  refine ⟨ad, rfl, hb, fun j u hu => ?_⟩
  rw [World.cell?_of_block (w := w) (hg.block _ (by rw [block_of_add]; omega) (by rw [block_of_add]; intro e; exact hne hn ad rfl (by injection e)))]
  exact hc j u hu
def WrIn (ws : List Int) (l : List (Int × Int)) (n : Nat) (gm gw : Nat) (s t f c p : Int) (w : World) (i : Value) (wr : World) : Prop := ∃ k : Nat, i = .int .i64 k ∧ k ≤ n ∧ MemOk wr gm gw s t f c p (mWri ws l k) ∧ w.grownBy wr (some gw)
set_option maxHeartbeats 1000000 in
theorem write_any (gm gw : Nat) (s t f c0 p : Int) (A : Option Addr) (n c : Nat) (ws : List Int) (l : List (Int × Int)) (w : World) (hm : MemOk w gm gw s t f c0 p ws) (hr : Reads w w.heap.size 2 A n (recW l)) (hne : 0 < n → ∀ ad, A = some ad → ad.block ≠ gw) (hn : n ≤ 9223372036854775807) :
    Calls Tryd.prog 31 #[.pointer (some ⟨gm, 0, none⟩), .slice A n c] w fun e w' => (∃ v, e = .returned v) ∧ MemOk w' gm gw s t f c0 p (mWri ws l n) ∧ w.grownBy w' (some gw) := by
  have HM := hide hm
  have HR := hide hr
  have HNE := hide hne
  have HGW := hide (show gw < w.heap.size from hm.2.1.lt)
  clear hm hr hne
  go_enter Tryd.func31, Tryd.ntmps31
  go_wp2_with fail
  go_loopw [8] (WrIn ws l n gm gw s t f c0 p w) (fun i _ => n - (intOf i).toNat)
  case atStart => exact ⟨0, rfl, by omega, HM.out, World.grownBy.refl _ _⟩
  case round =>
    obtain ⟨k, rfl, hk, hmem, hg⟩ := hrel
    have HMem := hide hmem
    have HG := hide hg
    clear hmem hg
    by_cases hlt : k < n
    · obtain ⟨a, rfl, hab, hkl, z0, z1⟩ := (HR.out.grownH HG.out (Nat.le_refl _) HNE.out).wri hlt
      have hkz : (k : Int) < (n : Int) := by omega
      have hs := hide (show mWri ws l (k + 1) = wPut (mWri ws l k) l[k].1 l[k].2 by
        show wPut (mWri ws l k) (l.getD k (0, 0)).1 (l.getD k (0, 0)).2 = _
        rw [show l.getD k (0, 0) = l[k] by simp [List.getD, hkl]])
      have P := hide (fun w2 hm => put_any gm gw s t f c0 p l[k].1 l[k].2 (mWri ws l k) w2 hm)
      generalize wPut (mWri ws l k) l[k].1 l[k].2 = ws2 at *
      generalize l[k].1 = q0 at *
      generalize l[k].2 = q1 at *
      go_wp2_with fail
      have B1 := (Below.refl wr.heap.size wr).alloc (Nat.le_refl _) (.cells #[.int .i64 q0, .int .u64 q1] 55)
      refine (P.out _ (HMem.out.below B1)).mono ?_
      rintro e w' ⟨⟨v, rfl⟩, hm2, hg2⟩
      go_wp2_with fail
      go_roundw
      case rel => exact ⟨k + 1, by go_num, by omega, by rw [hs.out]; exact hm2, grown_trans HG.out (grown_trans (grown_below B1 _) hg2)⟩
      case measure => simp [intOf]; omega
    · obtain rfl : k = n := by omega
      go_wp2_with fail
      go_end0
      exact ⟨⟨_, rfl⟩, HMem.out, HG.out⟩

/-- One word turned to what the other memory shows there: an access tells the same. -/
theorem one_law (ws zs : List Int) (hl : ws.length = zs.length) (k a o n : Int) :
    (mDo (wPut zs a (wGet ws a)) k a o n).1 = (mDo ws k a o n).1 ∧ wGet (mDo (wPut zs a (wGet ws a)) k a o n).2 a = wGet (mDo ws k a o n).2 a ∧ ∀ j : Nat, (j : Int) ≠ a → (mDo ws k a o n).2.getD j 0 = ws.getD j 0 := by
  by_cases hin : 0 ≤ a ∧ a < ws.length
  · obtain ⟨j, rfl⟩ := Int.eq_ofNat_of_zero_le hin.1
    have hj : j < ws.length := by omega
    have hz : j < zs.length := by omega
    have g1 : wGet (wPut zs j (wGet ws j)) j = wGet ws j := by
      rw [wPut_at hz, wGet_at (by simpa using hz)]
      simp [List.getD, hz]
    have pu : ∀ (ys : List Int) (x : Int), j < ys.length → wGet (wPut ys j x) j = x := fun ys x h => by
      rw [wPut_at h, wGet_at (by simpa using h)]
      simp [List.getD, h]
    have ot : ∀ i : Nat, (i : Int) ≠ (j : Int) → ∀ x, (wPut ws j x).getD i 0 = ws.getD i 0 := fun i hi x => by
      rw [wPut_at hj]
      simp only [List.getD, List.getElem?_set]
      rw [if_neg (by omega)]
    unfold mDo
    rw [g1, wPut_len, ← hl]
    split
    · exact ⟨rfl, g1, fun i _ => rfl⟩
    · split
      · exact ⟨rfl, by rw [pu _ _ (by rw [wPut_len]; exact hz), pu _ _ hj], fun i hi => ot i hi _⟩
      · split
        · exact ⟨rfl, by rw [pu _ _ (by rw [wPut_len]; exact hz), pu _ _ hj], fun i hi => ot i hi _⟩
        · exact ⟨rfl, g1, fun i _ => rfl⟩
  · have out : ∀ ys : List Int, ys.length = ws.length → mDo ys k a o n = (0, ys) := fun ys hy => by
      unfold mDo wGet wPut
      rw [hy, if_neg hin, if_neg hin]
      split
      · rfl
      · split
        · rfl
        · rw [if_neg (fun h => hin ⟨h.2.1, h.2.2.1⟩)]
    rw [out _ (by rw [wPut_len, hl]), out ws rfl]
    refine ⟨rfl, ?_, fun _ _ => rfl⟩
    unfold wGet
    rw [if_neg (by rw [wPut_len, ← hl]; exact hin), if_neg hin]
end Go.Proofs.YtpkocgcagemnbaaDoor
