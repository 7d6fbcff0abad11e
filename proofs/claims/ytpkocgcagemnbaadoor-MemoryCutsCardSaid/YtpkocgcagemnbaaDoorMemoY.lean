/-
  memory.Word, put, Write, Words of a copy.
-/
import Derived.Test.YtpkocgcagemnbaaDoorMemoX
namespace Go.Proofs.YtpkocgcagemnbaaDoor
open Go.RowKit
attribute [local go_sem] past_cell past_cell_add

theorem cword_any (gm gw c : Nat) (s t f l p : Int) (j : Nat) (ws : List Int) (w : World) (hm : CopOk w gm gw c s t f l p ws) (hj : j < ws.length) :
    Calls Tryd.prog 32 #[.pointer (some ⟨gm, 0, none⟩), .int .i64 (j : Int)] w fun e w' => e = .returned (.int .u64 (ws.getD j 0)) ∧ w = w' :=
  word_c gm gw ws.length c j _ w (hm.1.cell 5) hj (hm.at_ hj)
theorem cput_any (gm gw c : Nat) (s t f l p a x : Int) (ws : List Int) (w : World) (hm : CopOk w gm gw c s t f l p ws) (h : 0 ≤ a ∧ a < ws.length) :
    Calls Tryd.prog 51 #[.pointer (some ⟨gm, 0, none⟩), .int .i64 a, .int .u64 x] w fun e w' => (∃ v, e = .returned v) ∧ CopOk w' gm gw c s t f l p (wPut ws a x) ∧ w.grownBy w' (some gw) := by
  obtain ⟨j, rfl⟩ := Int.eq_ofNat_of_zero_le h.1
  have hj : j < ws.length := by omega
  rw [wPut_at hj]
  exact (put_c gm gw ws.length c j x (ws.getD j 0) w (hm.1.cell 5) hj (hm.at_ hj) (hm.frozen j)).mono fun e w' ⟨he, hw⟩ => by
    subst hw
    exact ⟨he, hm.set_ j x, grown_set w gw j _⟩
def CWrIn (ws : List Int) (l : List (Int × Int)) (n : Nat) (gm gw c : Nat) (s t f c0 p : Int) (w : World) (i : Value) (wr : World) : Prop := ∃ k : Nat, i = .int .i64 k ∧ k ≤ n ∧ CopOk wr gm gw c s t f c0 p (mWri ws l k) ∧ w.grownBy wr (some gw)
set_option maxHeartbeats 1000000 in
theorem cwrite_any (gm gw d : Nat) (s t f c0 p : Int) (A : Option Addr) (n c : Nat) (ws : List Int) (l : List (Int × Int)) (w : World) (hm : CopOk w gm gw d s t f c0 p ws) (hin : ∀ k (h : k < l.length), 0 ≤ l[k].1 ∧ l[k].1 < ws.length) (hr : Reads w w.heap.size 2 A n (recW l)) (hne : 0 < n → ∀ ad, A = some ad → ad.block ≠ gw) (hn : n ≤ 9223372036854775807) :
    Calls Tryd.prog 31 #[.pointer (some ⟨gm, 0, none⟩), .slice A n c] w fun e w' => (∃ v, e = .returned v) ∧ CopOk w' gm gw d s t f c0 p (mWri ws l n) ∧ w.grownBy w' (some gw) := by
  have HM := hide hm
  have HR := hide hr
  have HNE := hide hne
  have HI := hide hin
  have HGW := hide (show gw < w.heap.size from hm.lt)
  clear hm hr hne hin
  go_enter Tryd.func31, Tryd.ntmps31
  go_wp2_with fail
  go_loopw [8] (CWrIn ws l n gm gw d s t f c0 p w) (fun i _ => n - (intOf i).toNat)
  case atStart => exact ⟨0, rfl, by omega, HM.out, World.grownBy.refl _ _⟩
  case round =>
    obtain ⟨k, rfl, hk, hmem, hg⟩ := hrel
    have HMem := hide hmem
    have HG := hide hg
    clear hmem hg
    by_cases hlt : k < n
    · obtain ⟨a, rfl, hab, hkl, z0, z1⟩ := (HR.out.grownH HG.out (Nat.le_refl _) HNE.out).wri hlt
      have hkz : (k : Int) < (n : Int) := by omega
      have hs := hide (show mWri ws l (k + 1) = wPut (mWri ws l k) l[k].1 l[k].2 by
        show wPut (mWri ws l k) (l.getD k (0, 0)).1 (l.getD k (0, 0)).2 = _
        rw [show l.getD k (0, 0) = l[k] by simp [List.getD, hkl]])
      have P := hide (fun w2 hm => cput_any gm gw d s t f c0 p l[k].1 l[k].2 (mWri ws l k) w2 hm (by rw [mWri_len]; exact HI.out k hkl))
      generalize wPut (mWri ws l k) l[k].1 l[k].2 = ws2 at *
      generalize l[k].1 = q0 at *
      generalize l[k].2 = q1 at *
      go_wp2_with fail
      have B1 := (Below.refl wr.heap.size wr).alloc (Nat.le_refl _) (.cells #[.int .i64 q0, .int .u64 q1] 55)
      refine (P.out _ (HMem.out.below B1)).mono ?_
      rintro e w' ⟨⟨v, rfl⟩, hm2, hg2⟩
      go_wp2_with fail
      go_roundw
      case rel => exact ⟨k + 1, by go_num, by omega, by rw [hs.out]; exact hm2, grown_trans HG.out (grown_trans (grown_below B1 _) hg2)⟩
      case measure => simp [intOf]; omega
    · obtain rfl : k = n := by omega
      go_wp2_with fail
      go_end0
      exact ⟨⟨_, rfl⟩, HMem.out, HG.out⟩
set_option maxHeartbeats 1000000 in
theorem cwords_some (gm gw d x y : Nat) (s t f l p a b : Int) (ws : List Int) (w : World) (hm : CopOk w gm gw d s t f l p ws) (hd : ws.length ≤ d) (hN : ws.length ≤ 1000000) (hx : max a 0 = x) (hy : min b (ws.length : Int) = y) (hxy : x < y) :
    Calls Tryd.prog 30 #[.pointer (some ⟨gm, 0, none⟩), .int .i64 a, .int .i64 b] w fun e w' => (∃ u, e = .returned u ∧ Own w' w.heap.size u (cutW ws a b)) ∧ Below w.heap.size w w' := by
  have hyN : y ≤ ws.length := by omega
  have hr := reads_cutw hm.reads hxy hyN
  have e : cutW ws a b = (ws.take y).drop x := by
    unfold cutW
    rw [hx, hy, Int.toNat_natCast, Int.toNat_natCast]
  have hlen : ((ws.take y).drop x).length = y - x := by simp; omega
  rw [← e] at hr hlen
  have hc : w.cell? ⟨gm, 5, none⟩ = some (.slice (some ⟨gw, 0, none⟩) ws.length d) := hm.1.cell 5
  have CL := hide (fun k => clone_any (.slice (some ((⟨gw, 0, none⟩ : Addr).add x)) (y - x) (y - x)) (cutW ws a b) (w.drewN k) (by omega) ⟨_, y - x, by rw [hlen], by omega, by omega, by rw [hlen]; exact hr⟩)
  clear hm hr e hlen
  rw [Addr.add_lit, Nat.zero_add] at CL
  generalize cutW ws a b = ys at *
  have hyz : (y : Int) ≤ (ws.length : Int) := by omega
  have hxz : (x : Int) < (y : Int) := by omega
  generalize ws.length = N at *
  have hyd : (y : Int) ≤ (d : Int) := by omega
  go_enter Tryd.func30, Tryd.ntmps30
  go_wp2_with fail
  go_quiet (fail)
  go_wp2_with fail
  refine (CL.out _).mono ?_
  rintro e w2 ⟨⟨u, rfl, hu⟩, hb2⟩
  go_wp2_with fail
  go_ret
  exact ⟨⟨_, rfl, hu⟩, (below_drewN (Below.refl _ _) _).trans hb2⟩
end Go.Proofs.YtpkocgcagemnbaaDoor
