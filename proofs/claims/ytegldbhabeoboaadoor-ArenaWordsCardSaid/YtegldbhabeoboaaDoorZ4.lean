/-
  memory.put, Word, Write of a memory that stands.
-/
import Derived.Test.YtegldbhabeoboaaDoorZ3
import Derived.Maps.Own
import Derived.Maps.OwnOps
import Derived.Maps.Views
import Derived.Deep.DeepCutAuto
import Derived.Shelf.Abstract
namespace Go.Proofs.YtegldbhabeoboaaDoor
open Go.RowKit
attribute [local go_sem] past_cell past_cell_add

theorem keepG {w w' : World} {g : Nat} (hg : w.grownBy w' (some g)) {p : Addr} {v : Value} (h : w.cell? p = some v) (hne : p.block ≠ g) : w'.cell? p = some v :=
  (World.cell?_of_block (hg.block _ (World.block_lt_of_cell? w p h) (fun e => hne (by injection e)))).trans h
theorem MemOk.no {gm gw : Nat} {s t f l p a : Int} {ws : List Int} {w : World} (hm : MemOk w gm gw s t f l p ws) (h : ¬ (0 ≤ a ∧ a < ws.length)) : NoWord w (.pointer (some ⟨gm, 0, none⟩)) a :=
  .inr ⟨gm, _, _, rfl, hm.words, by omega⟩
theorem mput_any (gm gw : Nat) (s t f l p a x : Int) (ws : List Int) (w : World) (hm : MemOk w gm gw s t f l p ws) :
    Calls Tryd.prog 54 #[.pointer (some ⟨gm, 0, none⟩), .int .i64 a, .int .u64 x] w fun e w' => (∃ v, e = .returned v) ∧ MemOk w' gm gw s t f l p (wPut ws a x) ∧ w.grownBy w' (some gw) := by
  by_cases hin : 0 ≤ a ∧ a < ws.length
  · obtain ⟨j, rfl⟩ := Int.eq_ofNat_of_zero_le hin.1
    have hj : j < ws.length := by omega
    rw [wPut_at hj]
    exact (put_t gm gw ws.length j x (ws.getD j 0) w hm.words hj (hm.at_ hj) (hm.2.1.frozen j)).mono fun e w' ⟨he, hw⟩ => by
      subst hw
      exact ⟨he, hm.set_ j x, grown_set w gw j _⟩
  · unfold wPut
    rw [if_neg hin]
    exact (put_f _ a x w (hm.no hin)).mono fun e w' ⟨he, hw⟩ => by
      subst hw
      exact ⟨he, hm, World.grownBy.refl _ _⟩
theorem word_any (gm gw : Nat) (s t f l p a : Int) (ws : List Int) (w : World) (hm : MemOk w gm gw s t f l p ws) :
    Calls Tryd.prog 57 #[.pointer (some ⟨gm, 0, none⟩), .int .i64 a] w fun e w' => e = .returned (.int .u64 (wGet ws a)) ∧ w = w' := by
  by_cases hin : 0 ≤ a ∧ a < ws.length
  · obtain ⟨j, rfl⟩ := Int.eq_ofNat_of_zero_le hin.1
    have hj : j < ws.length := by omega
    rw [wGet_at hj]
    exact word_t gm gw ws.length j _ w hm.words hj (hm.at_ hj)
  · unfold wGet
    rw [if_neg hin]
    exact word_f _ a w (hm.no hin)

/-- What some writes leave. -/
def mWri (ws : List Int) (l : List (Int × Int)) : Nat → List Int
  | 0 => ws
  | k + 1 => wPut (mWri ws l k) (l.getD k (0, 0)).1 (l.getD k (0, 0)).2
theorem mWri_len (ws : List Int) (l : List (Int × Int)) : ∀ k, (mWri ws l k).length = ws.length
  | 0 => rfl
  | k + 1 => by
    show (wPut _ _ _).length = _
    rw [wPut_len, mWri_len ws l k]
theorem Reads.grownH {w w' : World} {B s n g : Nat} {A : Option Addr} {xs : List Value} (h : Reads w B s A n xs) (hg : w.grownBy w' (some g)) (hB : B ≤ w.heap.size) (hne : 0 < n → ∀ ad, A = some ad → ad.block ≠ g) : Reads w' B s A n xs := by
  refine ⟨h.1, fun hn => ?_⟩
  obtain ⟨ad, rfl, hb, hc⟩ := h.2 hn
  refine ⟨ad, rfl, hb, fun j u hu => ?_⟩
  rw [World.cell?_of_block (w := w) (hg.block _ (by rw [block_of_add]; omega) (by rw [block_of_add]; intro e; exact hne hn ad rfl (by injection e)))]
  exact hc j u hu
def WrIn (ws : List Int) (l : List (Int × Int)) (n : Nat) (gm gw : Nat) (s t f c p : Int) (w : World) (i : Value) (wr : World) : Prop := ∃ k : Nat, i = .int .i64 k ∧ k ≤ n ∧ MemOk wr gm gw s t f c p (mWri ws l k) ∧ w.grownBy wr (some gw)
set_option maxHeartbeats 1000000 in
theorem write_any (gm gw : Nat) (s t f c0 p : Int) (A : Option Addr) (n c : Nat) (ws : List Int) (l : List (Int × Int)) (w : World) (hm : MemOk w gm gw s t f c0 p ws) (hr : Reads w w.heap.size 2 A n (recW l)) (hne : 0 < n → ∀ ad, A = some ad → ad.block ≠ gw) (hn : n ≤ 9223372036854775807) :
    Calls Tryd.prog 12 #[.pointer (some ⟨gm, 0, none⟩), .slice A n c] w fun e w' => (∃ v, e = .returned v) ∧ MemOk w' gm gw s t f c0 p (mWri ws l n) ∧ w.grownBy w' (some gw) := by
  have HM := hide hm
  have HR := hide hr
  have HNE := hide hne
  have HGW := hide (show gw < w.heap.size from hm.2.1.lt)
  clear hm hr hne
  go_enter Tryd.func12, Tryd.ntmps12
  go_wp2_with fail
  go_loopw [8] (WrIn ws l n gm gw s t f c0 p w) (fun i _ => n - (intOf i).toNat)
  case atStart => exact ⟨0, rfl, by omega, HM.out, World.grownBy.refl _ _⟩
  case round =>
    obtain ⟨k, rfl, hk, hmem, hg⟩ := hrel
    have HMem := hide hmem
    have HG := hide hg
    clear hmem hg
    by_cases hlt : k < n
    · obtain ⟨a, rfl, hab, hkl, z0, z1⟩ := (HR.out.grownH HG.out (Nat.le_refl _) HNE.out).wri hlt
      have hkz : (k : Int) < (n : Int) := by omega
      have hs := hide (show mWri ws l (k + 1) = wPut (mWri ws l k) l[k].1 l[k].2 by
        show wPut (mWri ws l k) (l.getD k (0, 0)).1 (l.getD k (0, 0)).2 = _
        rw [show l.getD k (0, 0) = l[k] by simp [List.getD, hkl]])
      have P := hide (fun w2 hm => mput_any gm gw s t f c0 p l[k].1 l[k].2 (mWri ws l k) w2 hm)
      generalize wPut (mWri ws l k) l[k].1 l[k].2 = ws2 at *
      generalize l[k].1 = q0 at *
      generalize l[k].2 = q1 at *
      go_wp2_with fail
      have B1 := (Below.refl wr.heap.size wr).alloc (Nat.le_refl _) (.cells #[.int .i64 q0, .int .u64 q1] 35)
      refine (P.out _ (HMem.out.below B1)).mono ?_
      rintro e w' ⟨⟨v, rfl⟩, hm2, hg2⟩
      go_wp2_with fail
      go_roundw
      case rel => exact ⟨k + 1, by go_num, by omega, by rw [hs.out]; exact hm2, grown_trans HG.out (grown_trans (grown_below B1 _) hg2)⟩
      case measure => simp [intOf]; omega
    · obtain rfl : k = n := by omega
      go_wp2_with fail
      go_end0
      exact ⟨⟨_, rfl⟩, HMem.out, HG.out⟩

/-- One word turned to what the other memory shows there: an access tells the same. -/
theorem one_law (ws zs : List Int) (hl : ws.length = zs.length) (k a o n : Int) :
    (mDo (wPut zs a (wGet ws a)) k a o n).1 = (mDo ws k a o n).1 ∧ wGet (mDo (wPut zs a (wGet ws a)) k a o n).2 a = wGet (mDo ws k a o n).2 a ∧ ∀ j : Nat, (j : Int) ≠ a → (mDo ws k a o n).2.getD j 0 = ws.getD j 0 := by
  by_cases hin : 0 ≤ a ∧ a < ws.length
  · obtain ⟨j, rfl⟩ := Int.eq_ofNat_of_zero_le hin.1
    have hj : j < ws.length := by omega
    have hz : j < zs.length := by omega
    have g1 : wGet (wPut zs j (wGet ws j)) j = wGet ws j := by
      rw [wPut_at hz, wGet_at (by simpa using hz)]
      simp [List.getD, hz]
    have pu : ∀ (ys : List Int) (x : Int), j < ys.length → wGet (wPut ys j x) j = x := fun ys x h => by
      rw [wPut_at h, wGet_at (by simpa using h)]
      simp [List.getD, h]
    have ot : ∀ i : Nat, (i : Int) ≠ (j : Int) → ∀ x, (wPut ws j x).getD i 0 = ws.getD i 0 := fun i hi x => by
      rw [wPut_at hj]
      simp only [List.getD, List.getElem?_set]
      rw [if_neg (by omega)]
    unfold mDo
    rw [g1, wPut_len, ← hl]
    split
    · exact ⟨rfl, g1, fun i _ => rfl⟩
    · split
      · exact ⟨rfl, by rw [pu _ _ (by rw [wPut_len]; exact hz), pu _ _ hj], fun i hi => ot i hi _⟩
      · split
        · exact ⟨rfl, by rw [pu _ _ (by rw [wPut_len]; exact hz), pu _ _ hj], fun i hi => ot i hi _⟩
        · exact ⟨rfl, g1, fun i _ => rfl⟩
  · have out : ∀ ys : List Int, ys.length = ws.length → mDo ys k a o n = (0, ys) := fun ys hy => by
      unfold mDo wGet wPut
      rw [hy, if_neg hin, if_neg hin]
      split
      · rfl
      · split
        · rfl
        · rw [if_neg (fun h => hin ⟨h.2.1, h.2.2.1⟩)]
    rw [out _ (by rw [wPut_len, hl]), out ws rfl]
    refine ⟨rfl, ?_, fun _ _ => rfl⟩
    unfold wGet
    rw [if_neg (by rw [wPut_len, ← hl]; exact hin), if_neg hin]
end Go.Proofs.YtegldbhabeoboaaDoor

/-
  Shapes: Pack, Inner, Entries; the Go function LayoutShapes.
-/
namespace Go.Proofs.YtegldbhabeoboaaDoor
open Go.RowKit

def pkN (n : Int) : Int := if n < 0 ∨ 255 < n then 0 else n
def pk (inner : Bool) (n : Int) : Int := if inner = true then pkN n * 2 + 1 else pkN n * 2
theorem pkN_bd (n : Int) : 0 ≤ pkN n ∧ pkN n ≤ 255 := by unfold pkN; split <;> omega
def innB (x : Int) : Bool := x % 2 == 1
def ents (x fan : Int) : Int := if fan < 0 then 0 else if fan < x / 2 % 256 then fan else x / 2 % 256

theorem or_one (m : Int) (h : 0 ≤ m) (h2 : m ≤ 255) : bits .or .u64 (m * 2) 1 = m * 2 + 1 := by
  obtain ⟨k, rfl⟩ := Int.eq_ofNat_of_zero_le h
  have h4 := Nat.two_pow_add_eq_or_of_lt (i := 1) (b := 1) (by decide) k
  have e : ((k : Int) * 2) = ((k * 2 : Nat) : Int) := by omega
  rw [e, show (1 : Int) = ((1 : Nat) : Int) from rfl, u64_or_nat _ _ (by omega) (by omega)]
  rw [show k * 2 = 2 ^ 1 * k by omega, ← h4]
  omega

set_option maxHeartbeats 1000000 in
theorem pack_any (inner : Bool) (n : Int) (w : World) (_ : I64 n) :
    Calls Tryd.prog 44 #[.bool inner, .int .i64 n] w fun e w' => e = .returned (.int .u64 (pk inner n)) ∧ w = w' := by
  have hb := pkN_bd n
  have FP := hide (fun w => put_any 0 1 8 (pkN n) w ⟨by omega, by omega⟩ ⟨by omega, by omega⟩ ⟨by omega, by omega⟩ ⟨by omega, by omega⟩)
  have e : fput 0 1 8 (pkN n) = pkN n * 2 := by
    have h := fput_at 0 (pkN n) 1 8 (by omega)
    simp at h
    rw [h]
    omega
  rw [e] at FP
  have O := or_one (pkN n) hb.1 hb.2
  have E := hide (show pk inner n = if inner = true then pkN n * 2 + 1 else pkN n * 2 from rfl)
  by_cases c : n < 0 ∨ 255 < n
  · have W1 := hide (fun w => within_f n 256 w (by omega))
    rw [show pkN n = 0 from if_pos c] at FP O E
    clear c e hb
    cases inner
    · go_enter Tryd.func44, Tryd.ntmps44
      go_wp2_with fail
      refine (W1.out _).mono ?_
      rintro e w' ⟨rfl, rfl⟩
      go_wp2_with fail
      refine (FP.out _).mono ?_
      rintro e w' ⟨rfl, rfl⟩
      go_wp2_with fail
      go_ret
      exact ⟨by rw [E.out]; rfl, rfl⟩
    · go_enter Tryd.func44, Tryd.ntmps44
      go_wp2_with fail
      refine (W1.out _).mono ?_
      rintro e w' ⟨rfl, rfl⟩
      go_wp2_with fail
      refine (FP.out _).mono ?_
      rintro e w' ⟨rfl, rfl⟩
      go_wp2_with fail
      go_ret
      exact ⟨by rw [E.out]; rfl, rfl⟩
  · have W1 := hide (fun w => within_t n 256 w (by omega) (by omega))
    rw [show pkN n = n from if_neg c] at FP O E
    have c1 : 0 ≤ n := by omega
    have c2 : n ≤ 255 := by omega
    have OH := hide O
    clear c e hb O
    cases inner
    · go_enter Tryd.func44, Tryd.ntmps44
      go_wp2_with fail
      refine (W1.out _).mono ?_
      rintro e w' ⟨rfl, rfl⟩
      go_wp2_with fail
      refine (FP.out _).mono ?_
      rintro e w' ⟨rfl, rfl⟩
      go_wp2_with fail
      go_ret
      exact ⟨by rw [E.out]; rfl, rfl⟩
    · go_enter Tryd.func44, Tryd.ntmps44
      go_wp2_with fail
      refine (W1.out _).mono ?_
      rintro e w' ⟨rfl, rfl⟩
      go_wp2_with fail
      refine (FP.out _).mono ?_
      rintro e w' ⟨rfl, rfl⟩
      go_wp2_with fail
      go_ret
      exact ⟨by rw [E.out, ← OH.out]; rfl, rfl⟩
set_option maxHeartbeats 400000 in
theorem rpack_any (inner : Bool) (n : Int) (w : World) (hn : I64 n) :
    Calls Tryd.prog 76 #[.bool inner, .int .i64 n] w fun e w' => e = .returned (.int .u64 (pk inner n)) ∧ w = w' := by
  have E := hide (show pk inner n = if inner = true then pkN n * 2 + 1 else pkN n * 2 from rfl)
  obtain ⟨h1, h2⟩ := hn
  by_cases c1 : n < 0
  · rw [show pkN n = 0 from if_pos (.inl c1)] at E
    cases inner
    · go_enter Tryd.func76, Tryd.ntmps76
      go_wp2_with fail
      go_ret
      exact ⟨by rw [E.out]; rfl, rfl⟩
    · go_enter Tryd.func76, Tryd.ntmps76
      go_wp2_with fail
      go_ret
      exact ⟨by rw [E.out]; rfl, rfl⟩
  by_cases c2 : 255 < n
  · rw [show pkN n = 0 from if_pos (.inr c2)] at E
    have c3 : 0 ≤ n := by omega
    clear c1
    cases inner
    · go_enter Tryd.func76, Tryd.ntmps76
      go_wp2_with fail
      go_ret
      exact ⟨by rw [E.out]; rfl, rfl⟩
    · go_enter Tryd.func76, Tryd.ntmps76
      go_wp2_with fail
      go_ret
      exact ⟨by rw [E.out]; rfl, rfl⟩
  · rw [show pkN n = n from if_neg (by omega)] at E
    have c3 : 0 ≤ n := by omega
    have c4 : n ≤ 255 := by omega
    clear c1 c2
    cases inner
    · go_enter Tryd.func76, Tryd.ntmps76
      go_wp2_with fail
      go_ret
      exact ⟨by rw [E.out]; rfl, rfl⟩
    · go_enter Tryd.func76, Tryd.ntmps76
      go_wp2_with fail
      go_ret
      exact ⟨by rw [E.out]; rfl, rfl⟩
set_option maxHeartbeats 400000 in
theorem inner_any (x : Int) (w : World) (hx : W64 x) :
    Calls Tryd.prog 61 #[.int .u64 x] w fun e w' => e = .returned (.bool (innB x)) ∧ w = w' := by
  have BT := hide (fun w => bit_any x 0 w hx ⟨by omega, by omega⟩)
  have e : fget x 0 1 = x % 2 := by
    have h := fget_at x 0 1 (by omega)
    simpa using h
  rw [e, show (x % 2 == 1) = innB x from rfl] at BT
  generalize innB x = r at *
  clear e
  go_enter Tryd.func61, Tryd.ntmps61
  go_wp2_with fail
  refine (BT.out _).mono ?_
  rintro e w' ⟨rfl, rfl⟩
  go_wp2_with fail
  go_ret
  exact ⟨rfl, rfl⟩
set_option maxHeartbeats 400000 in
theorem rinner_any (x : Int) (w : World) (hx : W64 x) :
    Calls Tryd.prog 67 #[.int .u64 x] w fun e w' => e = .returned (.bool (innB x)) ∧ w = w' := by
  obtain ⟨h0, h1⟩ := hx
  have t1 : x.tmod 2 = x % 2 := Int.tmod_eq_emod_of_nonneg h0
  go_enter Tryd.func67, Tryd.ntmps67
  go_wp2_with fail
  go_ret
  exact ⟨rfl, rfl⟩
set_option maxHeartbeats 400000 in
theorem entries_any (x fan : Int) (w : World) (hx : W64 x) (hf : I64 fan) :
    Calls Tryd.prog 60 #[.int .u64 x, .int .i64 fan] w fun e w' => e = .returned (.int .i64 (ents x fan)) ∧ w = w' := by
  have G := hide (fun w => get_any x 1 8 w hx ⟨by omega, by omega⟩ ⟨by omega, by omega⟩)
  have e : fget x 1 8 = x / 2 % 256 := by
    have h := fget_at x 1 8 (by omega)
    simpa using h
  rw [e] at G
  have E := hide (show ents x fan = if fan < 0 then 0 else if fan < x / 2 % 256 then fan else x / 2 % 256 from rfl)
  have b0 : 0 ≤ x / 2 % 256 := by omega
  have b1 : x / 2 % 256 ≤ 255 := by omega
  clear e
  generalize ents x fan = R at *
  generalize x / 2 % 256 = m at *
  obtain ⟨h1, h2⟩ := hf
  by_cases c1 : fan < 0
  · have E2 := hide (E.out.trans (if_pos c1))
    have c2 : ¬ m ≤ fan := by omega
    have c3 : min m fan = fan := by omega
    have c4 : max 0 fan = 0 := by omega
    go_enter Tryd.func60, Tryd.ntmps60
    go_wp2_with fail
    refine (G.out _).mono ?_
    rintro e w' ⟨rfl, rfl⟩
    go_wp2_with fail
    go_ret
    exact ⟨by rw [E2.out]; rfl, rfl⟩
  by_cases c2 : fan < m
  · have E2 := hide (E.out.trans ((if_neg c1).trans (if_pos c2)))
    have c3 : min m fan = fan := by omega
    have c4 : max 0 fan = fan := by omega
    go_enter Tryd.func60, Tryd.ntmps60
    go_wp2_with fail
    refine (G.out _).mono ?_
    rintro e w' ⟨rfl, rfl⟩
    go_wp2_with fail
    go_ret
    exact ⟨by rw [E2.out]; rfl, rfl⟩
  · have E2 := hide (E.out.trans ((if_neg c1).trans (if_neg c2)))
    have c3 : min m fan = m := by omega
    have c4 : max 0 m = m := by omega
    have c5 : m ≤ fan := by omega
    go_enter Tryd.func60, Tryd.ntmps60
    go_wp2_with fail
    refine (G.out _).mono ?_
    rintro e w' ⟨rfl, rfl⟩
    go_wp2_with fail
    go_ret
    exact ⟨by rw [E2.out]; rfl, rfl⟩
set_option maxHeartbeats 400000 in
theorem rentries_any (x fan : Int) (w : World) (hx : W64 x) (_ : I64 fan) :
    Calls Tryd.prog 66 #[.int .u64 x, .int .i64 fan] w fun e w' => e = .returned (.int .i64 (ents x fan)) ∧ w = w' := by
  obtain ⟨x0, x1⟩ := hx
  have t1 : x.tdiv 2 = x / 2 := Int.tdiv_eq_ediv_of_nonneg x0
  have t2 : (x / 2).tmod 256 = x / 2 % 256 := Int.tmod_eq_emod_of_nonneg (by omega)
  have E := hide (show ents x fan = if fan < 0 then 0 else if fan < x / 2 % 256 then fan else x / 2 % 256 from rfl)
  have b0 : 0 ≤ x / 2 % 256 := by omega
  have b1 : x / 2 % 256 ≤ 255 := by omega
  have b2 : 0 ≤ x / 2 := by omega
  have b3 : x / 2 ≤ 18446744073709551615 := by omega
  generalize ents x fan = R at *
  generalize x / 2 % 256 = m at *
  generalize x / 2 = y at *
  by_cases c1 : fan < 0
  · have E2 := hide (E.out.trans (if_pos c1))
    go_enter Tryd.func66, Tryd.ntmps66
    go_wp2_with fail
    go_ret
    exact ⟨by rw [E2.out]; rfl, rfl⟩
  by_cases c2 : fan < m
  · have E2 := hide (E.out.trans ((if_neg c1).trans (if_pos c2)))
    go_enter Tryd.func66, Tryd.ntmps66
    go_wp2_with fail
    go_ret
    exact ⟨by rw [E2.out]; rfl, rfl⟩
  · have E2 := hide (E.out.trans ((if_neg c1).trans (if_neg c2)))
    go_enter Tryd.func66, Tryd.ntmps66
    go_wp2_with fail
    go_ret
    exact ⟨by rw [E2.out]; rfl, rfl⟩

end Go.Proofs.YtegldbhabeoboaaDoor

/-
  Package hword and its reference.
-/
namespace Go.Proofs.YtegldbhabeoboaaDoor
open Go.RowKit

def hslot (slot : Int) : Int := if slot < 0 ∨ 65535 < slot then 0 else slot
def hmake (tag slot : Int) : Int := tag % 281474976710656 * 65536 + hslot slot
theorem hslot_bound (slot : Int) : 0 ≤ hslot slot ∧ hslot slot ≤ 65535 := by unfold hslot; split <;> omega
theorem hmake_bound (tag slot : Int) : W64 (hmake tag slot) := by
  have := hslot_bound slot
  unfold hmake
  exact ⟨by omega, by omega⟩
theorem hmake_put (tag slot : Int) : fput (hslot slot) 16 48 tag = hmake tag slot := by
  have h := fput_at (hslot slot) tag 16 48 (by omega)
  have b := hslot_bound slot
  unfold hmake
  generalize hslot slot = s at *
  simp at h
  rw [h]
  omega
theorem hget_tag {w : Int} (h : W64 w) : fget w 16 48 = w / 65536 := by
  have h1 := fget_at w 16 48 (by omega)
  obtain ⟨h2, h3⟩ := h
  simp at h1
  rw [h1]
  omega
theorem hget_slot (w : Int) : fget w 0 16 = w % 65536 := by
  have h1 := fget_at w 0 16 (by omega)
  simpa using h1

set_option maxHeartbeats 400000 in
theorem hmake_any (tag slot : Int) (w : World) (ht : W64 tag) (hs : I64 slot) :
    Calls Tryd.prog 51 #[.int .u64 tag, .int .i64 slot] w fun r w' => r = .returned (.int .u64 (hmake tag slot)) ∧ w = w' := by
  have b := hslot_bound slot
  have P := hide (put_any (hslot slot) 16 48 tag w ⟨b.1, by omega⟩ ⟨by omega, by omega⟩ ⟨by omega, by omega⟩ ht)
  rw [hmake_put] at P
  obtain ⟨h0, h1⟩ := hs
  by_cases c0 : slot < 0
  · rw [show hslot slot = 0 from if_pos (.inl c0)] at P
    go_enter Tryd.func51, Tryd.ntmps51
    go_wp2_with fail
    refine P.out.mono ?_
    rintro e w' ⟨rfl, rfl⟩
    go_wp2_with fail
    go_ret
    exact ⟨rfl, rfl⟩
  by_cases c1 : 65535 < slot
  · rw [show hslot slot = 0 from if_pos (.inr c1)] at P
    go_enter Tryd.func51, Tryd.ntmps51
    go_wp2_with fail
    refine P.out.mono ?_
    rintro e w' ⟨rfl, rfl⟩
    go_wp2_with fail
    go_ret
    exact ⟨rfl, rfl⟩
  rw [show hslot slot = slot from if_neg (by omega)] at P
  have c2 : 0 ≤ slot := by omega
  have c3 : slot ≤ 65535 := by omega
  clear c0 c1 b
  go_enter Tryd.func51, Tryd.ntmps51
  go_wp2_with fail
  refine P.out.mono ?_
  rintro e w' ⟨rfl, rfl⟩
  go_wp2_with fail
  go_ret
  exact ⟨rfl, rfl⟩

set_option maxHeartbeats 400000 in
theorem hof_any (x : Int) (w : World) (hx : W64 x) :
    Calls Tryd.prog 86 #[.int .u64 x] w fun r w' => r = .returned (.agg #[.int .u64 (x / 65536), .int .i64 (x % 65536)]) ∧ Below w.heap.size w w' := by
  have T := hide (fun w => get_any x 16 48 w hx ⟨by omega, by omega⟩ ⟨by omega, by omega⟩)
  have Sl := hide (fun w => get_any x 0 16 w hx ⟨by omega, by omega⟩ ⟨by omega, by omega⟩)
  rw [hget_tag hx] at T
  rw [hget_slot] at Sl
  have b1 : 0 ≤ x % 65536 := by omega
  have b2 : x % 65536 < 65536 := by omega
  generalize x % 65536 = s at *
  generalize x / 65536 = t at *
  go_enter Tryd.func86, Tryd.ntmps86
  go_wp2_with fail
  refine (T.out _).mono ?_
  rintro e w' ⟨rfl, rfl⟩
  go_wp2_with fail
  refine (Sl.out _).mono ?_
  rintro e w' ⟨rfl, rfl⟩
  go_wp2_with fail
  refine bodyPost_ret (v := .agg #[.int .u64 t, .int .i64 s]) (by simp [results, Tryd.results86, go_sem]) rfl ⟨rfl, ?_⟩
  exact (Below.refl _ _).alloc (Nat.le_refl _) _

set_option maxHeartbeats 400000 in
theorem htell_slot (x : Int) (w : World) (hx : W64 x) :
    Calls Tryd.prog 56 #[.int .u64 x] w fun r w' => r = .returned (.int .i64 (x % 65536)) ∧ Below w.heap.size w w' := by
  have O := hide (hof_any x w hx)
  generalize x % 65536 = s at *
  generalize x / 65536 = t at *
  have hf : ∀ w : World, (Instr.field 104 (.agg #[.int .u64 t, .int .i64 s]) 1).run Tryd.prog w = .ok (.int .i64 s) w := fun _ => by kernel_rfl
  go_enter Tryd.func56, Tryd.ntmps56
  go_wp2_with fail
  refine O.out.mono ?_
  rintro e w' ⟨rfl, hb⟩
  go_wp2_with fail
  go_ret
  exact ⟨rfl, hb⟩
def hturn (x slot : Int) : Int := hmake (x / 65536 + 1) slot
theorem hturn_bound (x slot : Int) : W64 (hturn x slot) := hmake_bound _ _
end Go.Proofs.YtegldbhabeoboaaDoor

/-
  arena.New: the memory of a machine that begins holds the document's words.
-/
namespace Go.Proofs.YtegldbhabeoboaaDoor
open Go.RowKit

/-- The slots above k are laid. -/
def dOR (s f k o r : Int) : Int :=
  if o = 0 ∧ r = 1 then 3 else if o = 0 ∧ r = 3 + f then 65537 else if o = 1 ∧ r = 0 then 1099511627776
  else if 2 ≤ o ∧ k < o ∧ o ≤ s ∧ r = 0 then 2 else if 2 ≤ o ∧ k < o ∧ o < s ∧ r = 2 then o + 1 else 0
def dK (s t f k j : Int) : Int := dOR s f k (oOf t f j) (rOf t f j)
def BegD (s t f k : Int) (ws : List Int) : Prop := ∀ j : Nat, j < ws.length → ws.getD j 0 = dK s t f k j
theorem dK_top (s t f j : Int) : dK s t f s j = bK s t f 2 j := by
  unfold dK bK dOR bOR
  generalize oOf t f j = o
  generalize rOf t f j = r
  repeat' split
  all_goals first | rfl | omega
theorem dK_low (s t f j : Int) : dK s t f 1 j = bK s t f (s + 1) j := by
  unfold dK bK dOR bOR
  generalize oOf t f j = o
  generalize rOf t f j = r
  repeat' split
  all_goals first | rfl | omega
theorem dK_step {s t f k j : Int} (hf : 4 ≤ f) (hk : 2 ≤ k) (hks : k ≤ s) : dK s t f (k - 1) j = if j = nB t f k + 2 then (if k < s then k + 1 else 0) else if j = nB t f k then 2 else dK s t f k j := by
  have h1 := at_or (t := t) (f := f) (j := j) (k := k) (c := 0) (by omega) (by omega)
  have h2 := at_or (t := t) (f := f) (j := j) (k := k) (c := 2) (by omega) (by omega)
  rw [Int.add_zero] at h1
  unfold dK dOR
  simp only [h1, h2]
  generalize oOf t f j = o
  generalize rOf t f j = r
  repeat' split
  all_goals first | rfl | omega
theorem wPut_set {ws : List Int} {p : Nat} (h : p < ws.length) (x : Int) : wPut ws p x = ws.set p x := by
  unfold wPut
  rw [if_pos (by omega)]
  rfl
theorem begD_step {s t f k : Int} {ws : List Int} {q : Nat} (hf : 4 ≤ f) (hk : 2 ≤ k) (hks : k ≤ s) (hq : nB t f k = q) (hl : q + 2 < ws.length) (h : BegD s t f k ws) : BegD s t f (k - 1) (wPut (wPut ws q 2) ((q + 2 : Nat) : Int) (if k < s then k + 1 else 0)) := by
  rw [wPut_set (ws := ws) (p := q) (by omega), wPut_set (ws := ws.set q 2) (p := q + 2) (by rw [List.length_set]; exact hl)]
  intro j hj
  rw [List.length_set, List.length_set] at hj
  rw [getD_set _ _ _ _ (by rw [List.length_set]; exact hl), getD_set _ _ _ _ (by omega), dK_step hf hk hks, h j hj, hq]
  have e1 : (j = q + 2) ↔ (j : Int) = (q : Int) + 2 := by omega
  have e2 : (j = q) ↔ (j : Int) = (q : Int) := by omega
  simp only [e1, e2]
theorem begD_end {s t f : Int} {ws : List Int} (hN : ws.length = (laySize s t f).toNat) (h2 : 2 < ws.length) (h : BegD s t f 1 ws) : wPut ws 2 (if 2 ≤ s then 2 else 0) = begL s t f := by
  rw [show (2 : Int) = ((2 : Nat) : Int) from rfl, wPut_set h2]
  refine begL_of (by rw [List.length_set]; exact hN) fun j hj => ?_
  rw [List.length_set] at hj
  rw [getD_set _ _ _ _ h2, h j hj, dK_low]
  unfold begAt
  by_cases hj2 : j = 2
  · rw [if_pos hj2, if_pos (show (j : Int) = 2 by omega)]
    rfl
  · rw [if_neg hj2, if_neg (by omega)]
theorem mem5 {w : World} {gm gw : Nat} {s t f l p : Int} {ws : List Int} (h : MemOk w gm gw s t f l p ws) : w.cell? ⟨gm, 0, none⟩ = some (.int .i64 s) ∧ w.cell? ⟨gm, 1, none⟩ = some (.int .i64 t) ∧ w.cell? ⟨gm, 2, none⟩ = some (.int .i64 f) ∧ w.cell? ⟨gm, 3, none⟩ = some (.int .i64 l) ∧ w.cell? ⟨gm, 4, none⟩ = some (.int .i64 p) :=
  ⟨h.1.cell 0, h.1.cell 1, h.1.cell 2, h.1.cell 3, h.1.cell 4⟩
def AnIn (gm gw gc N : Nat) (s t f l p : Int) (w : World) (fi i : Value) (wr : World) : Prop :=
  ∃ (k fr : Int) (ws : List Int), i = .int .i64 k ∧ fi = .int .i64 fr ∧ 1 ≤ k ∧ k ≤ s ∧ fr = (if k < s then k + 1 else 0) ∧ MemOk wr gm gw s t f l p ws ∧ ws.length = N ∧ BegD s t f k ws ∧ Blk wr gc 23 #[.int .i64 s, .int .i64 t, .int .i64 f, .int .i64 l, .int .i64 p] ∧ Below w.heap.size w wr
theorem MemOk.drew {w : World} {gm gw : Nat} {s t f l p : Int} {ws : List Int} (h : MemOk w gm gw s t f l p ws) : MemOk w.drew gm gw s t f l p ws := ⟨h.1.drew, Blk.drew h.2.1, h.2.2⟩
set_option maxRecDepth 100000 in
set_option maxHeartbeats 4000000 in
theorem anew10_yes (s t f l p : Int) (N : Nat) (w : World) (hT : Tab w) (hc : cfgOk s t f l p = true) (hN : laySize s t f = N) :
    Calls Tryd.prog 10 #[.agg #[.int .i64 s, .int .i64 t, .int .i64 f, .int .i64 l, .int .i64 p]] w fun e w' => (∃ gm gw, e = .returned (.pointer (some ⟨gm, 0, none⟩)) ∧ MemOk w' gm gw s t f l p (begL s t f) ∧ w.heap.size ≤ gm ∧ w.heap.size ≤ gw) ∧ Below w.heap.size w w' := by
  have hb := cfgOk_iff.1 hc
  have hs : 1 ≤ s ∧ s ≤ 1000 := by omega
  have ht : 1 ≤ t ∧ t ≤ 64 := by omega
  have hf : 4 ≤ f ∧ f ≤ 64 := by omega
  have hsp := size_pos hs ht hf
  have b0 := nB_bd hs ht hf (sl := 0) (by omega)
  have b1 := nB_bd hs ht hf (sl := 1) (by omega)
  obtain ⟨p1, hp1⟩ : ∃ p1 : Nat, nB t f 0 + 1 = p1 := Int.eq_ofNat_of_zero_le (by omega)
  obtain ⟨p2, hp2⟩ : ∃ p2 : Nat, nB t f 0 + 3 + f = p2 := Int.eq_ofNat_of_zero_le (by omega)
  obtain ⟨p3, hp3⟩ : ∃ p3 : Nat, nB t f 1 = p3 := Int.eq_ofNat_of_zero_le (by omega)
  have MN := hide (fun w2 hb => mnew_yes s t f l p N w2 (hT.below hb) hc hN)
  have C1 := hide (fun w2 => lshp_any s t f l p 0 w2 hs ht hf)
  have C2 := hide (fun w2 => pack_any true 1 w2 ⟨by omega, by omega⟩)
  have C3 := hide (fun w2 => lval_any s t f l p 0 0 w2 hs ht hf)
  have C4 := hide (fun w2 => hnmake_any 1 1 w2 ⟨by omega, by omega⟩ ⟨by omega, by omega⟩)
  have C5 := hide (fun w2 => lver_any s t f l p 1 w2 hs ht hf)
  have C6 := hide (fun w2 => vmake_any 1 0 false false w2 ⟨by omega, by omega⟩ ⟨by omega, by omega⟩)
  rw [atpB_7 (by omega), hp1] at C1
  rw [show pk true 1 = 3 by rfl] at C2
  rw [atpB_10 (by omega) (by omega), show nB t f 0 + 3 + f + 0 = nB t f 0 + 3 + f by omega, hp2] at C3
  rw [show hmk 1 1 = 65537 by rfl] at C4
  rw [atpB_6 (by omega), hp3] at C5
  rw [show vpack 1 0 false false = 1099511627776 by rfl] at C6
  have CV := hide (fun (k : Int) (h1 : 2 ≤ k) (h2 : k ≤ s) (q : Nat) (hq : nB t f k = q) w2 => by have h := lver_any s t f l p k w2 hs ht hf; rw [atpB_6 (by omega), hq] at h; exact h)
  have CK := hide (fun (k : Int) (h1 : 2 ≤ k) (h2 : k ≤ s) (q : Nat) (hq : nB t f k = q) w2 => by have h := llnk_any s t f l p k w2 hs ht hf; rw [atpB_8 (by omega), hq] at h; exact h)
  have C7 := hide (fun w2 => vmake_any 0 0 true false w2 ⟨by omega, by omega⟩ ⟨by omega, by omega⟩)
  rw [show vpack 0 0 true false = 2 by rfl] at C7
  have C8 := hide (fun w2 => at_any s t f l p 3 0 0 w2 hs ht hf)
  rw [atp_first (by omega), show (3 : Int) - 1 = 2 by rfl] at C8
  have BG := hide (begK_zs s t f N p1 p2 p3 hp1.symm hp2.symm hp3.symm (by omega) (by omega))
  have HP := hide (show p1 < N ∧ p2 < N ∧ p3 < N by omega)
  have HNN := hide hN
  have HB := hide hb
  have HT := hide hT
  clear hp1 hp2 hp3 hN hb hc b0 b1 hsp hT
  have B0 := (Below.refl w.heap.size w).alloc (Nat.le_refl _) (.cells #[.int .i64 s, .int .i64 t, .int .i64 f, .int .i64 l, .int .i64 p] 23)
  have bc := Blk.new w 23 #[.int .i64 s, .int .i64 t, .int .i64 f, .int .i64 l, .int .i64 p]
  have mc := fun i => bc.cell i
  go_enter Tryd.func10, Tryd.ntmps10
  go_wp2_with fail
  refine (MN.out _ B0).mono ?_
  rintro e w1 ⟨⟨gm, gw, rfl, M, hg1, hg2⟩, hb1⟩
  have HGM := hide (Nat.le_trans B0.size hg1)
  have HGW := hide (Nat.le_trans B0.size hg2)
  have HCG := hide (show some w.heap.size ≠ some gw from fun e => by have h1 := bc.lt; injection e with e; omega)
  replace bc := bc.below hb1 bc.lt
  replace B0 := B0.trans (hb1.mono B0.size)
  clear hb1 mc hg1 hg2
  go_wp2_with fail
  refine wp_region_heldZ [23] (fun w' => w'.cell? ⟨gm, 0, none⟩ = some (.int .i64 s) ∧ w'.cell? ⟨gm, 1, none⟩ = some (.int .i64 t) ∧ w'.cell? ⟨gm, 2, none⟩ = some (.int .i64 f) ∧ w'.cell? ⟨gm, 3, none⟩ = some (.int .i64 l) ∧ w'.cell? ⟨gm, 4, none⟩ = some (.int .i64 p)) (by kernel_rfl) (by exact mem5 M) (fun hHeld => ?_)
  replace M := M.drew
  replace bc := bc.drew
  replace B0 := B0.drew
  generalize w1.drew = w1x at *
  refine' wpAnyZ_takeA (i := 0) (v := ?_) (opAt rfl) (by kernel_rfl) (by kernel_rfl) (by kernel_rfl) (by kernel_rfl) (fun _ _ _ h => h) (by assumption) (by rfl) (fun w hSw => ?_) ?_
  rotate_left
  · (try dsimp only at hSw); go_simp; (try with_reducible rfl)
  try simp only [Act.put, List.setIfInBounds_toArray, List.set_cons_zero, List.set_cons_succ]
  refine' wpAnyZ_takeA (i := 1) (v := ?_) (opAt rfl) (by kernel_rfl) (by kernel_rfl) (by kernel_rfl) (by kernel_rfl) (fun _ _ _ h => h) (by assumption) (by rfl) (fun w hSw => ?_) ?_
  rotate_left
  · (try dsimp only at hSw); go_simp; (try with_reducible rfl)
  try simp only [Act.put, List.setIfInBounds_toArray, List.set_cons_zero, List.set_cons_succ]
  refine' wpAnyZ_takeA (i := 2) (v := ?_) (opAt rfl) (by kernel_rfl) (by kernel_rfl) (by kernel_rfl) (by kernel_rfl) (fun _ _ _ h => h) (by assumption) (by rfl) (fun w hSw => ?_) ?_
  rotate_left
  · (try dsimp only at hSw); go_simp; (try with_reducible rfl)
  try simp only [Act.put, List.setIfInBounds_toArray, List.set_cons_zero, List.set_cons_succ]
  refine' wpAnyZ_takeA (i := 3) (v := ?_) (opAt rfl) (by kernel_rfl) (by kernel_rfl) (by kernel_rfl) (by kernel_rfl) (fun _ _ _ h => h) (by assumption) (by rfl) (fun w hSw => ?_) ?_
  rotate_left
  · (try dsimp only at hSw); go_simp; (try with_reducible rfl)
  try simp only [Act.put, List.setIfInBounds_toArray, List.set_cons_zero, List.set_cons_succ]
  refine' wpAnyZ_takeA (i := 4) (v := ?_) (opAt rfl) (by kernel_rfl) (by kernel_rfl) (by kernel_rfl) (by kernel_rfl) (fun _ _ _ h => h) (by assumption) (by rfl) (fun w hSw => ?_) ?_
  rotate_left
  · (try dsimp only at hSw); go_simp; (try with_reducible rfl)
  try simp only [Act.put, List.setIfInBounds_toArray, List.set_cons_zero, List.set_cons_succ]
  refine' wpAnyZ_takeA (i := 8) (v := ?_) (opAt rfl) (by kernel_rfl) (by kernel_rfl) (by kernel_rfl) (by kernel_rfl) (fun _ _ _ h => h) (by assumption) (by rfl) (fun w hSw => ?_) ?_
  rotate_left
  · (try dsimp only at hSw); go_simp; (try with_reducible rfl)
  try simp only [Act.put, List.setIfInBounds_toArray, List.set_cons_zero, List.set_cons_succ]
  refine' wpAnyZ_takeA (i := 9) (v := ?_) (opAt rfl) (by kernel_rfl) (by kernel_rfl) (by kernel_rfl) (by kernel_rfl) (fun _ _ _ h => h) (by assumption) (by rfl) (fun w hSw => ?_) ?_
  rotate_left
  · (try dsimp only at hSw); go_simp; (try with_reducible rfl)
  try simp only [Act.put, List.setIfInBounds_toArray, List.set_cons_zero, List.set_cons_succ]
  refine' wpAnyZ_takeA (i := 10) (v := ?_) (opAt rfl) (by kernel_rfl) (by kernel_rfl) (by kernel_rfl) (by kernel_rfl) (fun _ _ _ h => h) (by assumption) (by rfl) (fun w hSw => ?_) ?_
  rotate_left
  · (try dsimp only at hSw); go_simp; (try with_reducible rfl)
  try simp only [Act.put, List.setIfInBounds_toArray, List.set_cons_zero, List.set_cons_succ]
  refine' wpAnyZ_takeA (i := 11) (v := ?_) (opAt rfl) (by kernel_rfl) (by kernel_rfl) (by kernel_rfl) (by kernel_rfl) (fun _ _ _ h => h) (by assumption) (by rfl) (fun w hSw => ?_) ?_
  rotate_left
  · (try dsimp only at hSw); go_simp; (try with_reducible rfl)
  try simp only [Act.put, List.setIfInBounds_toArray, List.set_cons_zero, List.set_cons_succ]
  refine' wpAnyZ_takeA (i := 15) (v := ?_) (opAt rfl) (by kernel_rfl) (by kernel_rfl) (by kernel_rfl) (by kernel_rfl) (fun _ _ _ h => h) (by assumption) (by rfl) (fun w hSw => ?_) ?_
  rotate_left
  · (try dsimp only at hSw); go_simp; (try with_reducible rfl)
  try simp only [Act.put, List.setIfInBounds_toArray, List.set_cons_zero, List.set_cons_succ]
  refine' wpAnyZ_takeA (i := 16) (v := ?_) (opAt rfl) (by kernel_rfl) (by kernel_rfl) (by kernel_rfl) (by kernel_rfl) (fun _ _ _ h => h) (by assumption) (by rfl) (fun w hSw => ?_) ?_
  rotate_left
  · (try dsimp only at hSw); go_simp; (try with_reducible rfl)
  try simp only [Act.put, List.setIfInBounds_toArray, List.set_cons_zero, List.set_cons_succ]
  refine' wpAnyZ_takeA (i := 17) (v := ?_) (opAt rfl) (by kernel_rfl) (by kernel_rfl) (by kernel_rfl) (by kernel_rfl) (fun _ _ _ h => h) (by assumption) (by rfl) (fun w hSw => ?_) ?_
  rotate_left
  · (try dsimp only at hSw); go_simp; (try with_reducible rfl)
  try simp only [Act.put, List.setIfInBounds_toArray, List.set_cons_zero, List.set_cons_succ]
  refine' wpAnyZ_takeA (i := 18) (v := ?_) (opAt rfl) (by kernel_rfl) (by kernel_rfl) (by kernel_rfl) (by kernel_rfl) (fun _ _ _ h => h) (by assumption) (by rfl) (fun w hSw => ?_) ?_
  rotate_left
  · (try dsimp only at hSw); go_simp; (try with_reducible rfl)
  try simp only [Act.put, List.setIfInBounds_toArray, List.set_cons_zero, List.set_cons_succ]
  refine wpAnyZ_ready (rs := [5]) (by kernel_rfl) (by simp) ?_
  refine AllReadyZ.cons (opAt rfl) (fun K hK => ?_) ?_
  · skip
    go_simp
    refine (C1.out _).mono ?_
    rintro e w2 ⟨rfl, hb1⟩
    replace M := M.below hb1
    replace bc := bc.below hb1 bc.lt
    replace B0 := B0.trans (hb1.mono B0.size)
    clear hb1
    try go_wp2_with fail
    refine hK.out _ _ (by exact mem5 M) (fun hHeld => ?_)
    clear hK K
    try simp only [Act.put, List.setIfInBounds_toArray, List.set_cons_zero, List.set_cons_succ]
    refine wpAnyZ_ready (rs := [6]) (by kernel_rfl) (by simp) ?_
    refine AllReadyZ.cons (opAt rfl) (fun K hK => ?_) ?_
    · skip
      go_simp
      refine (C2.out _).mono ?_
      rintro e w2x ⟨rfl, rfl⟩
      try go_wp2_with fail
      refine hK.out _ _ (by exact mem5 M) (fun hHeld => ?_)
      clear hK K
      try simp only [Act.put, List.setIfInBounds_toArray, List.set_cons_zero, List.set_cons_succ]
      refine' wpAnyZ_takeA (i := 7) (v := ?_) (opAt rfl) (by kernel_rfl) (by kernel_rfl) (by kernel_rfl) (by kernel_rfl) (fun _ _ _ h => h) (by assumption) (by rfl) (fun w hSw => ?_) ?_
      rotate_left
      · (try dsimp only at hSw); go_simp; (try with_reducible rfl)
      try simp only [Act.put, List.setIfInBounds_toArray, List.set_cons_zero, List.set_cons_succ]
      refine wpAnyZ_ready (rs := [12]) (by kernel_rfl) (by simp) ?_
      refine AllReadyZ.cons (opAt rfl) (fun K hK => ?_) ?_
      · skip
        go_simp
        refine (C3.out _).mono ?_
        rintro e w3 ⟨rfl, hb1⟩
        replace M := M.below hb1
        replace bc := bc.below hb1 bc.lt
        replace B0 := B0.trans (hb1.mono B0.size)
        clear hb1
        try go_wp2_with fail
        refine hK.out _ _ (by exact mem5 M) (fun hHeld => ?_)
        clear hK K
        try simp only [Act.put, List.setIfInBounds_toArray, List.set_cons_zero, List.set_cons_succ]
        refine wpAnyZ_ready (rs := [13]) (by kernel_rfl) (by simp) ?_
        refine AllReadyZ.cons (opAt rfl) (fun K hK => ?_) ?_
        · skip
          go_simp
          refine (C4.out _).mono ?_
          rintro e w3x ⟨rfl, rfl⟩
          try go_wp2_with fail
          refine hK.out _ _ (by exact mem5 M) (fun hHeld => ?_)
          clear hK K
          try simp only [Act.put, List.setIfInBounds_toArray, List.set_cons_zero, List.set_cons_succ]
          refine' wpAnyZ_takeA (i := 14) (v := ?_) (opAt rfl) (by kernel_rfl) (by kernel_rfl) (by kernel_rfl) (by kernel_rfl) (fun _ _ _ h => h) (by assumption) (by rfl) (fun w hSw => ?_) ?_
          rotate_left
          · (try dsimp only at hSw); go_simp; (try with_reducible rfl)
          try simp only [Act.put, List.setIfInBounds_toArray, List.set_cons_zero, List.set_cons_succ]
          refine wpAnyZ_ready (rs := [19]) (by kernel_rfl) (by simp) ?_
          refine AllReadyZ.cons (opAt rfl) (fun K hK => ?_) ?_
          · skip
            go_simp
            refine (C5.out _).mono ?_
            rintro e w4 ⟨rfl, hb1⟩
            replace M := M.below hb1
            replace bc := bc.below hb1 bc.lt
            replace B0 := B0.trans (hb1.mono B0.size)
            clear hb1
            try go_wp2_with fail
            refine hK.out _ _ (by exact mem5 M) (fun hHeld => ?_)
            clear hK K
            try simp only [Act.put, List.setIfInBounds_toArray, List.set_cons_zero, List.set_cons_succ]
            refine wpAnyZ_ready (rs := [20]) (by kernel_rfl) (by simp) ?_
            refine AllReadyZ.cons (opAt rfl) (fun K hK => ?_) ?_
            · skip
              go_simp
              refine (C6.out _).mono ?_
              rintro e w4x ⟨rfl, rfl⟩
              try go_wp2_with fail
              refine hK.out _ _ (by exact mem5 M) (fun hHeld => ?_)
              clear hK K
              try simp only [Act.put, List.setIfInBounds_toArray, List.set_cons_zero, List.set_cons_succ]
              refine' wpAnyZ_takeA (i := 21) (v := ?_) (opAt rfl) (by kernel_rfl) (by kernel_rfl) (by kernel_rfl) (by kernel_rfl) (fun _ _ _ h => h) (by assumption) (by rfl) (fun w hSw => ?_) ?_
              rotate_left
              · (try dsimp only at hSw); go_simp; (try with_reducible rfl)
              try simp only [Act.put, List.setIfInBounds_toArray, List.set_cons_zero, List.set_cons_succ]
              refine wpAnyZ_ready (rs := [22]) (by kernel_rfl) (by simp) ?_
              refine AllReadyZ.cons (opAt rfl) (fun K hK => ?_) ?_
              · skip
                go_simp
                have bl := Blk.new w4 35 #[.int .i64 p1, .int .u64 3, .int .i64 p2, .int .u64 65537, .int .i64 p3, .int .u64 1099511627776]
                have hrd := Reads.blk bl 3 2 rfl
                rw [show w4.heap.size + 1 = (w4.alloc (.cells #[.int .i64 p1, .int .u64 3, .int .i64 p2, .int .u64 65537, .int .i64 p3, .int .u64 1099511627776] 35)).heap.size by rw [World.size_alloc]] at hrd
                have HGL := hide (show w4.heap.size ≠ gw from fun e => by have h9 := Blk.lt M.2.1; omega)
                replace M := M.below ((Below.refl w4.heap.size w4).alloc (Nat.le_refl _) (.cells #[.int .i64 p1, .int .u64 3, .int .i64 p2, .int .u64 65537, .int .i64 p3, .int .u64 1099511627776] 35))
                replace bc := bc.alloc (.cells #[.int .i64 p1, .int .u64 3, .int .i64 p2, .int .u64 65537, .int .i64 p3, .int .u64 1099511627776] 35)
                replace B0 := B0.alloc B0.size (.cells #[.int .i64 p1, .int .u64 3, .int .i64 p2, .int .u64 65537, .int .i64 p3, .int .u64 1099511627776] 35)
                clear bl
                generalize w4.alloc (.cells #[.int .i64 p1, .int .u64 3, .int .i64 p2, .int .u64 65537, .int .i64 p3, .int .u64 1099511627776] 35) = w5 at *
                generalize w4.heap.size = gl at *
                refine hK.out _ _ (by exact mem5 M) (fun hHeld => ?_)
                clear hK K
                try simp only [Act.put, List.setIfInBounds_toArray, List.set_cons_zero, List.set_cons_succ]
                refine wpAnyZ_ready (rs := [23]) (by kernel_rfl) (by simp) ?_
                refine AllReadyZ.last (opAt rfl) (by kernel_rfl) (fun K hK => ?_) ?_
                · skip
                  go_simp
                  refine (write_any gm gw s t f l p (some ⟨gl, 0, none⟩) 3 3 (zs N) [((p1 : Nat), 3), ((p2 : Nat), 65537), ((p3 : Nat), 1099511627776)] _ M hrd (fun _ ad e => by injection e with e; subst e; exact HGL.out) (by decide)).mono ?_
                  rintro e w6 ⟨⟨v9, rfl⟩, M9, hg9⟩
                  replace M := M9
                  replace bc := bc.grown hg9 HCG.out
                  replace B0 := below_grown B0 hg9 HGW.out B0.size
                  clear M9 hg9 hrd HGL
                  try go_wp2_with fail
                  refine hK.out _ _ ?_
                  clear hK K
                  try simp only [Act.put, List.setIfInBounds_toArray, List.set_cons_zero, List.set_cons_succ]
                  refine wpAnyZ_done (by kernel_rfl) ?_ _
                  have hwz : BegD s t f s (mWri (zs N) [((p1 : Nat), 3), ((p2 : Nat), 65537), ((p3 : Nat), 1099511627776)] 3) := by
                    show BegD s t f s (wPut (wPut (wPut (zs N) p1 3) p2 65537) p3 1099511627776)
                    rw [wPut_set (ws := zs N) (p := p1) (by rw [zs_len]; exact HP.out.1), wPut_set (ws := (zs N).set p1 3) (p := p2) (by rw [List.length_set, zs_len]; exact HP.out.2.1), wPut_set (ws := ((zs N).set p1 3).set p2 65537) (p := p3) (by simp only [List.length_set, zs_len]; exact HP.out.2.2)]
                    intro j hj
                    rw [dK_top]
                    exact BG.out j hj
                  have hwl : (mWri (zs N) [((p1 : Nat), 3), ((p2 : Nat), 65537), ((p3 : Nat), 1099511627776)] 3).length = N := by rw [mWri_len, zs_len]
                  generalize mWri (zs N) [((p1 : Nat), 3), ((p2 : Nat), 65537), ((p3 : Nat), 1099511627776)] 3 = ws0 at *
                  clear BG HP C1 C2 C3 C4 C5 C6
                  have mc := fun i => bc.cell i
                  go_wp2_with fail
                  clear mc
                  go_loopw [4, 5] (AnIn gm gw w.heap.size N s t f l p w) (fun _ i _ => (intOf i).toNat)
                  case atStart => exact ⟨s, 0, ws0, rfl, rfl, by omega, by omega, by rw [if_neg (by omega)], M, hwl, hwz, bc, B0⟩
                  case round =>
                    clear M hwl hwz bc B0
                    obtain ⟨k, fr, ws, rfl, rfl, hk1, hks, hfr, M, hwl, hD, bc, B0⟩ := hrel
                    have HFR := hide hfr
                    have hfb : 0 ≤ fr ∧ fr ≤ 1001 := by rw [hfr]; split <;> omega
                    clear hfr
                    by_cases hk : 2 ≤ k
                    · have bk := nB_bd hs ht hf (sl := k) (by omega)
                      obtain ⟨q, hq⟩ : ∃ q : Nat, nB t f k = q := Int.eq_ofNat_of_zero_le (by omega)
                      have CVk := hide (CV.out k hk hks q hq)
                      have CLk := hide (CK.out k hk hks q hq)
                      rw [show (q : Int) + 2 = ((q + 2 : Nat) : Int) by omega] at CLk
                      have hqN : q + 2 < ws.length := by have := HNN.out; omega
                      have ST := hide (begD_step (by omega) hk hks hq hqN hD)
                      rw [← HFR.out] at ST
                      have hw1 : IntKind.u64.wrap fr = fr := IntWalk.u64_in _ (by omega)
                      have hw2 : IntKind.i64.wrap (k - 1) = k - 1 := IntWalk.i64_in _ (by omega)
                      have HK2 := hide (show k = if k - 1 < s then k - 1 + 1 else 0 by rw [if_pos (by omega)]; omega)
                      have HWL := hide hwl
                      clear bk hq hqN hD hwl
                      generalize q + 2 = q2 at *
                      go_wp2_with fail
                      refine wp_region_heldZ [19] (fun w' => w'.cell? ⟨gm, 0, none⟩ = some (.int .i64 s) ∧ w'.cell? ⟨gm, 1, none⟩ = some (.int .i64 t) ∧ w'.cell? ⟨gm, 2, none⟩ = some (.int .i64 f) ∧ w'.cell? ⟨gm, 3, none⟩ = some (.int .i64 l) ∧ w'.cell? ⟨gm, 4, none⟩ = some (.int .i64 p)) (by kernel_rfl) (by exact mem5 M) (fun hHeld => ?_)
                      replace M := M.drew
                      replace bc := bc.drew
                      replace B0 := B0.drew
                      generalize wr.drew = w7 at *
                      refine' wpAnyZ_takeA (i := 0) (v := ?_) (opAt rfl) (by kernel_rfl) (by kernel_rfl) (by kernel_rfl) (by kernel_rfl) (fun _ _ _ h => h) (by assumption) (by rfl) (fun w hSw => ?_) ?_
                      rotate_left
                      · (try dsimp only at hSw); go_simp; (try with_reducible rfl)
                      try simp only [Act.put, List.setIfInBounds_toArray, List.set_cons_zero, List.set_cons_succ]
                      refine' wpAnyZ_takeA (i := 1) (v := ?_) (opAt rfl) (by kernel_rfl) (by kernel_rfl) (by kernel_rfl) (by kernel_rfl) (fun _ _ _ h => h) (by assumption) (by rfl) (fun w hSw => ?_) ?_
                      rotate_left
                      · (try dsimp only at hSw); go_simp; (try with_reducible rfl)
                      try simp only [Act.put, List.setIfInBounds_toArray, List.set_cons_zero, List.set_cons_succ]
                      refine' wpAnyZ_takeA (i := 2) (v := ?_) (opAt rfl) (by kernel_rfl) (by kernel_rfl) (by kernel_rfl) (by kernel_rfl) (fun _ _ _ h => h) (by assumption) (by rfl) (fun w hSw => ?_) ?_
                      rotate_left
                      · (try dsimp only at hSw); go_simp; (try with_reducible rfl)
                      try simp only [Act.put, List.setIfInBounds_toArray, List.set_cons_zero, List.set_cons_succ]
                      refine' wpAnyZ_takeA (i := 3) (v := ?_) (opAt rfl) (by kernel_rfl) (by kernel_rfl) (by kernel_rfl) (by kernel_rfl) (fun _ _ _ h => h) (by assumption) (by rfl) (fun w hSw => ?_) ?_
                      rotate_left
                      · (try dsimp only at hSw); go_simp; (try with_reducible rfl)
                      try simp only [Act.put, List.setIfInBounds_toArray, List.set_cons_zero, List.set_cons_succ]
                      refine' wpAnyZ_takeA (i := 4) (v := ?_) (opAt rfl) (by kernel_rfl) (by kernel_rfl) (by kernel_rfl) (by kernel_rfl) (fun _ _ _ h => h) (by assumption) (by rfl) (fun w hSw => ?_) ?_
                      rotate_left
                      · (try dsimp only at hSw); go_simp; (try with_reducible rfl)
                      try simp only [Act.put, List.setIfInBounds_toArray, List.set_cons_zero, List.set_cons_succ]
                      refine' wpAnyZ_takeA (i := 5) (v := ?_) (opAt rfl) (by kernel_rfl) (by kernel_rfl) (by kernel_rfl) (by kernel_rfl) (fun _ _ _ h => h) (by assumption) (by rfl) (fun w hSw => ?_) ?_
                      rotate_left
                      · (try dsimp only at hSw); go_simp; (try with_reducible rfl)
                      try simp only [Act.put, List.setIfInBounds_toArray, List.set_cons_zero, List.set_cons_succ]
                      refine' wpAnyZ_takeA (i := 9) (v := ?_) (opAt rfl) (by kernel_rfl) (by kernel_rfl) (by kernel_rfl) (by kernel_rfl) (fun _ _ _ h => h) (by assumption) (by rfl) (fun w hSw => ?_) ?_
                      rotate_left
                      · (try dsimp only at hSw); go_simp; (try with_reducible rfl)
                      try simp only [Act.put, List.setIfInBounds_toArray, List.set_cons_zero, List.set_cons_succ]
                      refine' wpAnyZ_takeA (i := 10) (v := ?_) (opAt rfl) (by kernel_rfl) (by kernel_rfl) (by kernel_rfl) (by kernel_rfl) (fun _ _ _ h => h) (by assumption) (by rfl) (fun w hSw => ?_) ?_
                      rotate_left
                      · (try dsimp only at hSw); go_simp; (try with_reducible rfl)
                      try simp only [Act.put, List.setIfInBounds_toArray, List.set_cons_zero, List.set_cons_succ]
                      refine' wpAnyZ_takeA (i := 11) (v := ?_) (opAt rfl) (by kernel_rfl) (by kernel_rfl) (by kernel_rfl) (by kernel_rfl) (fun _ _ _ h => h) (by assumption) (by rfl) (fun w hSw => ?_) ?_
                      rotate_left
                      · (try dsimp only at hSw); go_simp; (try with_reducible rfl)
                      try simp only [Act.put, List.setIfInBounds_toArray, List.set_cons_zero, List.set_cons_succ]
                      refine' wpAnyZ_takeA (i := 12) (v := ?_) (opAt rfl) (by kernel_rfl) (by kernel_rfl) (by kernel_rfl) (by kernel_rfl) (fun _ _ _ h => h) (by assumption) (by rfl) (fun w hSw => ?_) ?_
                      rotate_left
                      · (try dsimp only at hSw); go_simp; (try with_reducible rfl)
                      try simp only [Act.put, List.setIfInBounds_toArray, List.set_cons_zero, List.set_cons_succ]
                      refine' wpAnyZ_takeA (i := 13) (v := ?_) (opAt rfl) (by kernel_rfl) (by kernel_rfl) (by kernel_rfl) (by kernel_rfl) (fun _ _ _ h => h) (by assumption) (by rfl) (fun w hSw => ?_) ?_
                      rotate_left
                      · (try dsimp only at hSw); go_simp; (try with_reducible rfl)
                      try simp only [Act.put, List.setIfInBounds_toArray, List.set_cons_zero, List.set_cons_succ]
                      refine' wpAnyZ_takeA (i := 15) (v := ?_) (opAt rfl) (by kernel_rfl) (by kernel_rfl) (by kernel_rfl) (by kernel_rfl) (fun _ _ _ h => h) (by assumption) (by rfl) (fun w hSw => ?_) ?_
                      rotate_left
                      · (try dsimp only at hSw); go_simp; (try with_reducible rfl)
                      try simp only [Act.put, List.setIfInBounds_toArray, List.set_cons_zero, List.set_cons_succ]
                      refine' wpAnyZ_takeA (i := 16) (v := ?_) (opAt rfl) (by kernel_rfl) (by kernel_rfl) (by kernel_rfl) (by kernel_rfl) (fun _ _ _ h => h) (by assumption) (by rfl) (fun w hSw => ?_) ?_
                      rotate_left
                      · (try dsimp only at hSw); go_simp; (try with_reducible rfl)
                      try simp only [Act.put, List.setIfInBounds_toArray, List.set_cons_zero, List.set_cons_succ]
                      refine wpAnyZ_ready (rs := [6]) (by kernel_rfl) (by simp) ?_
                      refine AllReadyZ.cons (opAt rfl) (fun K hK => ?_) ?_
                      · skip
                        go_simp
                        refine (CVk.out _).mono ?_
                        rintro e w8 ⟨rfl, hb1⟩
                        replace M := M.below hb1
                        replace bc := bc.below hb1 bc.lt
                        replace B0 := B0.trans (hb1.mono B0.size)
                        clear hb1
                        try go_wp2_with fail
                        refine hK.out _ _ (by exact mem5 M) (fun hHeld => ?_)
                        clear hK K
                        try simp only [Act.put, List.setIfInBounds_toArray, List.set_cons_zero, List.set_cons_succ]
                        refine wpAnyZ_ready (rs := [7]) (by kernel_rfl) (by simp) ?_
                        refine AllReadyZ.cons (opAt rfl) (fun K hK => ?_) ?_
                        · skip
                          go_simp
                          refine (C7.out _).mono ?_
                          rintro e w8x ⟨rfl, rfl⟩
                          try go_wp2_with fail
                          refine hK.out _ _ (by exact mem5 M) (fun hHeld => ?_)
                          clear hK K
                          try simp only [Act.put, List.setIfInBounds_toArray, List.set_cons_zero, List.set_cons_succ]
                          refine' wpAnyZ_takeA (i := 8) (v := ?_) (opAt rfl) (by kernel_rfl) (by kernel_rfl) (by kernel_rfl) (by kernel_rfl) (fun _ _ _ h => h) (by assumption) (by rfl) (fun w hSw => ?_) ?_
                          rotate_left
                          · (try dsimp only at hSw); go_simp; (try with_reducible rfl)
                          try simp only [Act.put, List.setIfInBounds_toArray, List.set_cons_zero, List.set_cons_succ]
                          refine wpAnyZ_ready (rs := [14]) (by kernel_rfl) (by simp) ?_
                          refine AllReadyZ.cons (opAt rfl) (fun K hK => ?_) ?_
                          · skip
                            go_simp
                            refine (CLk.out _).mono ?_
                            rintro e w9 ⟨rfl, hb1⟩
                            replace M := M.below hb1
                            replace bc := bc.below hb1 bc.lt
                            replace B0 := B0.trans (hb1.mono B0.size)
                            clear hb1
                            try go_wp2_with fail
                            refine hK.out _ _ (by exact mem5 M) (fun hHeld => ?_)
                            clear hK K
                            try simp only [Act.put, List.setIfInBounds_toArray, List.set_cons_zero, List.set_cons_succ]
                            refine' wpAnyZ_takeA (i := 17) (v := ?_) (opAt rfl) (by kernel_rfl) (by kernel_rfl) (by kernel_rfl) (by kernel_rfl) (fun _ _ _ h => h) (by assumption) (by rfl) (fun w hSw => ?_) ?_
                            rotate_left
                            · (try dsimp only at hSw); go_simp; (try with_reducible rfl)
                            try simp only [Act.put, List.setIfInBounds_toArray, List.set_cons_zero, List.set_cons_succ]
                            refine wpAnyZ_ready (rs := [18]) (by kernel_rfl) (by simp) ?_
                            refine AllReadyZ.cons (opAt rfl) (fun K hK => ?_) ?_
                            · skip
                              go_simp
                              have bl := Blk.new w9 35 #[.int .i64 q, .int .u64 2, .int .i64 q2, .int .u64 fr]
                              have hrd := Reads.blk bl 2 2 rfl
                              rw [show w9.heap.size + 1 = (w9.alloc (.cells #[.int .i64 q, .int .u64 2, .int .i64 q2, .int .u64 fr] 35)).heap.size by rw [World.size_alloc]] at hrd
                              have HGL := hide (show w9.heap.size ≠ gw from fun e => by have h9 := Blk.lt M.2.1; omega)
                              replace M := M.below ((Below.refl w9.heap.size w9).alloc (Nat.le_refl _) (.cells #[.int .i64 q, .int .u64 2, .int .i64 q2, .int .u64 fr] 35))
                              replace bc := bc.alloc (.cells #[.int .i64 q, .int .u64 2, .int .i64 q2, .int .u64 fr] 35)
                              replace B0 := B0.alloc B0.size (.cells #[.int .i64 q, .int .u64 2, .int .i64 q2, .int .u64 fr] 35)
                              clear bl
                              generalize w9.alloc (.cells #[.int .i64 q, .int .u64 2, .int .i64 q2, .int .u64 fr] 35) = wA at *
                              generalize w9.heap.size = gl at *
                              refine hK.out _ _ (by exact mem5 M) (fun hHeld => ?_)
                              clear hK K
                              try simp only [Act.put, List.setIfInBounds_toArray, List.set_cons_zero, List.set_cons_succ]
                              refine wpAnyZ_ready (rs := [19]) (by kernel_rfl) (by simp) ?_
                              refine AllReadyZ.last (opAt rfl) (by kernel_rfl) (fun K hK => ?_) ?_
                              · skip
                                go_simp
                                refine (write_any gm gw s t f l p (some ⟨gl, 0, none⟩) 2 2 (ws) [((q : Nat), 2), ((q2 : Nat), fr)] _ M hrd (fun _ ad e => by injection e with e; subst e; exact HGL.out) (by decide)).mono ?_
                                rintro e wB ⟨⟨v9, rfl⟩, M9, hg9⟩
                                replace M := M9
                                replace bc := bc.grown hg9 HCG.out
                                replace B0 := below_grown B0 hg9 HGW.out B0.size
                                clear M9 hg9 hrd HGL
                                try go_wp2_with fail
                                refine hK.out _ _ ?_
                                clear hK K
                                try simp only [Act.put, List.setIfInBounds_toArray, List.set_cons_zero, List.set_cons_succ]
                                refine wpAnyZ_done (by kernel_rfl) ?_ _
                                go_wp2_with fail
                                go_roundw
                                case measure => simp [intOf]; omega
                                case rel => exact ⟨k - 1, k, _, by go_num, by go_num, by omega, by omega, HK2.out, M, by rw [mWri_len]; exact HWL.out, ST.out, bc, B0⟩
                              exact AllReadyZ.nil
                            exact AllReadyZ.nil
                          exact AllReadyZ.nil
                        exact AllReadyZ.nil
                      exact AllReadyZ.nil
                    · have hk1e : k = 1 := by omega
                      subst hk1e
                      have hfe : fr = 2 ∨ fr = 0 := by rw [HFR.out]; split <;> omega
                      have HE := hide (begD_end (by rw [hwl]; have := HNN.out; omega) (by rw [hwl]; have := HNN.out; have := size_pos hs ht hf; omega) hD)
                      have HF2 := hide (show (if 2 ≤ s then (2 : Int) else 0) = fr by rw [HFR.out]; repeat' split <;> omega)
                      have HM := hide (fun w2 => Go.Proofs.YtegldbhabeoboaaDoor.hmake_any 0 fr w2 ⟨by omega, by omega⟩ ⟨by omega, by omega⟩)
                      have hfm : hmake 0 fr = fr := by rcases hfe with h | h <;> (rw [h]; rfl)
                      rw [hfm] at HM
                      rw [HF2.out] at HE
                      clear hD hwl hfe hfm
                      have mm := mem5 M
                      obtain ⟨m0, m1, m2, m3, m4⟩ := mm
                      go_wp2_with fail
                      clear m0 m1 m2 m3 m4
                      refine (C8.out _).mono ?_
                      rintro e wC ⟨rfl, hb1⟩
                      replace M := M.below hb1
                      replace bc := bc.below hb1 bc.lt
                      replace B0 := B0.trans (hb1.mono B0.size)
                      clear hb1
                      go_wp2_with fail
                      refine (HM.out _).mono ?_
                      rintro e wD ⟨rfl, rfl⟩
                      go_wp2_with fail
                      have bl := Blk.new wC 35 #[.int .i64 2, .int .u64 fr]
                      have hrd := Reads.blk bl 1 2 rfl
                      rw [show wC.heap.size + 1 = (wC.alloc (.cells #[.int .i64 2, .int .u64 fr] 35)).heap.size by rw [World.size_alloc]] at hrd
                      have HGL := hide (show wC.heap.size ≠ gw from fun e => by have h9 := Blk.lt M.2.1; omega)
                      replace M := M.below ((Below.refl wC.heap.size wC).alloc (Nat.le_refl _) (.cells #[.int .i64 2, .int .u64 fr] 35))
                      replace bc := bc.alloc (.cells #[.int .i64 2, .int .u64 fr] 35)
                      replace B0 := B0.alloc B0.size (.cells #[.int .i64 2, .int .u64 fr] 35)
                      clear bl
                      generalize wC.alloc (.cells #[.int .i64 2, .int .u64 fr] 35) = wE at *
                      generalize wC.heap.size = gl at *
                      refine (write_any gm gw s t f l p (some ⟨gl, 0, none⟩) 1 1 (ws) [(2, fr)] _ M hrd (fun _ ad e => by injection e with e; subst e; exact HGL.out) (by decide)).mono ?_
                      rintro e wF ⟨⟨v9, rfl⟩, M9, hg9⟩
                      replace M := M9
                      replace bc := bc.grown hg9 HCG.out
                      replace B0 := below_grown B0 hg9 HGW.out B0.size
                      clear M9 hg9 hrd HGL
                      try go_wp2_with fail
                      go_ret
                      refine ⟨⟨gm, gw, rfl, ?_, HGM.out, HGW.out⟩, B0⟩
                      have e9 : mWri ws [(2, fr)] 1 = begL s t f := HE.out
                      rw [← e9]
                      exact M
                exact AllReadyZ.nil
              exact AllReadyZ.nil
            exact AllReadyZ.nil
          exact AllReadyZ.nil
        exact AllReadyZ.nil
      exact AllReadyZ.nil
    exact AllReadyZ.nil
  exact AllReadyZ.nil
end Go.Proofs.YtegldbhabeoboaaDoor

/-
  A map from ints to bools that the call itself makes: what stands at a key, behind a store.
-/
namespace Go.Proofs.YtegldbhabeoboaaDoor
open Go.RowKit Go.Maps

theorem lawI64 : Keyed Tryd.prog 3 := int_keyed Tryd.underlying3
theorem zeroBoolI (w : World) : (zeroValue 4).run Tryd.prog w = .ok (.bool false) w := by kernel_rfl

theorem plainElem_bool_invI {H : Type} {P : Program} {e : TypeId} (he : P.underlying e = some .bool) {v : Value} {z : DataW H × List MemPlace} (h : plainElem P e v = some z) : ∃ a, v = .bool a ∧ z = (.lit (.bool a), []) := by
  unfold plainElem at h
  rw [he] at h
  cases v <;> simp at h
  exact ⟨_, rfl, h.symm⟩

/-- Block b is a map of at most n entries that answers f. -/
def MapInt (w : World) (b n : Nat) (f : Int → Bool) : Prop :=
  ∃ D : DataW Unit, IsMap D ∧ w.ownsMap Tryd.prog 3 (plainElem Tryd.prog 4) b n D ∧ ∀ k : Int, (Lit.int .i64 k).wf = true → D.atKey (.int .i64 k) (.lit (.bool false)) = .lit (.bool (f k))

theorem MapInt.made (w : World) : MapInt (w.alloc (.map #[] 0)) w.heap.size 0 (fun _ => false) :=
  ⟨.map [], ⟨[], rfl⟩, World.ownsMap_made _ _ _ _, fun _ _ => rfl⟩
theorem MapInt.below {w w' : World} {b n : Nat} {f : Int → Bool} (h : MapInt w b n f) (hb : Below w.heap.size w w') : MapInt w' b n f := by
  obtain ⟨D, hi, ho, ha⟩ := h
  exact ⟨D, hi, ho.kept (row := none) ⟨hb.os, hb.tape, hb.output, hb.size, fun k hk _ => hb.block k hk⟩ (by simp), ha⟩
theorem MapInt.below' {w w' : World} {b n B : Nat} {f : Int → Bool} (h : MapInt w b n f) (hB : b < B) (hb : Below B w w') : MapInt w' b n f := by
  obtain ⟨D, hi, ⟨es, cl, hh, r⟩, ha⟩ := h
  exact ⟨D, hi, ⟨es, cl, (hb.block b hB).trans hh, r⟩, ha⟩
theorem MapInt.alloc {w : World} {b n : Nat} {f : Int → Bool} (h : MapInt w b n f) (o : Obj) : MapInt (w.alloc o) b n f := by
  obtain ⟨D, hi, ho, ha⟩ := h
  exact ⟨D, hi, ho.alloc o, ha⟩
theorem MapInt.lt {w : World} {b n : Nat} {f : Int → Bool} (h : MapInt w b n f) : b < w.heap.size := by
  obtain ⟨D, hi, ho, ha⟩ := h
  exact ho.lt

theorem MapInt.look {w : World} {b n : Nat} {f : Int → Bool} (h : MapInt w b n f) (x : Int) (hx : (Lit.int .i64 x).wf = true) :
    (Instr.lookup 84 (.map (some b)) (.int .i64 x) false).run Tryd.prog w = .ok (.bool (f x)) w := by
  obtain ⟨D, hi, ho, ha⟩ := h
  obtain ⟨v, ps, hrun, hv⟩ := ho.lookup lawI64 Tryd.underlying84 (zeroBoolI w) (plainElem_bool Tryd.underlying4 false) (keyOf_int_mk Tryd.underlying3 hx)
  obtain ⟨a, rfl, e⟩ := plainElem_bool_invI Tryd.underlying4 hv
  have := ha x hx
  simp only [Prod.mk.injEq] at e
  rw [this] at e
  have e' : f x = a := by have := e.1; simpa using this
  rw [hrun, e']

theorem atKey_putI {D : DataW Unit} (hi : IsMap D) (x k : Int) (y : Bool) (z : DataW Unit) : (D.put (.int .i64 x) (.lit (.bool y))).atKey (.int .i64 k) z = if k = x then .lit (.bool y) else D.atKey (.int .i64 k) z := by
  by_cases h : k = x
  · subst h
    rw [if_pos rfl]
    exact atKey_put_same hi (by simp [WideAt.IsKeyLit]) _ _
  · rw [if_neg h]
    exact atKey_put_other (fun e => h (by injection e)) _ _

theorem wpList_mapUpdate_boolI {w : World} {ops : Array Oper} {rest : List Oper} {o : Oper} {a : Act} {Q : Exit → Act → World → Prop}
    (hg : o.guard = none) (m x v : Operand) (hop : o.op = Op.mapUpdate 84 m x v) {b n : Nat} {f : Int → Bool}
    (hm : a.eval m = .map (some b)) (hown : MapInt w b n f) (hn : n < maxLen) (k : Int) (y : Bool) (hx : a.eval x = .int .i64 k) (hv : a.eval v = .bool y) (hk : (Lit.int .i64 k).wf = true)
    (hK : ∀ w', MapInt w' b (n + 1) (fun j => if j = k then y else f j) → w.grownBy w' (some b) → wpList Tryd.prog ops Q rest (a.put o.dst undef) w') :
    wpList Tryd.prog ops Q (o :: rest) a w := by
  obtain ⟨D, hi, ho, ha⟩ := hown
  refine wpList_mapUpdate_own w hg m x v _ hop 3 4 lawI64 Tryd.underlying84 _ b n D hm ho hn _ _ (.int .i64 k) hx hv (keyOf_int_mk Tryd.underlying3 hk) (.lit (.bool y)) [] (plainElem_bool Tryd.underlying4 y) ?_
  intro w' h1 h2
  refine hK w' ⟨_, hi.put _ _, h1, fun j hj => ?_⟩ h2
  rw [atKey_putI hi]
  by_cases hjk : j = k
  · simp [hjk]
  · simp only [if_neg hjk]
    exact ha j hj

end Go.Proofs.YtegldbhabeoboaaDoor

/-
  The list of free slots: arena.Free.
-/
namespace Go.Proofs.YtegldbhabeoboaaDoor
open Go.RowKit Go.Maps

def frN (nx : Int → Int) (s : Int) : Nat → Int → List Int → List Int × Bool
  | 0, _, l => (l, false)
  | n + 1, x, l => if x = 0 then (l, true) else if s < x ∨ x ∈ l then (l, false) else frN nx s n (nx x) (l ++ [x])
def Nice (s : Int) (l : List Int) : Prop := l.Nodup ∧ ∀ x ∈ l, 1 ≤ x ∧ x ≤ s
theorem nice_nil (s : Int) : Nice s [] := ⟨List.nodup_nil, fun x hx => by simp at hx⟩
theorem nice_len : ∀ (n : Nat) (l : List Int), Nice (n : Int) l → l.length ≤ n
  | 0, l, h => by
    cases l with
    | nil => simp
    | cons x l => have := h.2 x (by simp); omega
  | n + 1, l, h => by
    have h1 : Nice (n : Int) (l.erase ((n : Int) + 1)) := by
      refine ⟨h.1.erase _, fun x hx => ?_⟩
      have hm := (h.1.mem_erase_iff).1 hx
      have := h.2 x hm.2
      have := hm.1
      omega
    have h2 := nice_len n _ h1
    have h3 := List.length_erase (a := (n : Int) + 1) (l := l)
    split at h3 <;> omega
theorem nice_snoc {s x : Int} {l : List Int} (h : Nice s l) (h1 : 1 ≤ x ∧ x ≤ s) (hn : x ∉ l) : Nice s (l ++ [x]) := by
  refine ⟨?_, fun y hy => ?_⟩
  · rw [List.nodup_append]
    refine ⟨h.1, by simp, fun a ha b hb => ?_⟩
    simp at hb
    subst hb
    exact fun e => hn (e ▸ ha)
  · rcases List.mem_append.1 hy with hy | hy
    · exact h.2 y hy
    · simp at hy
      omega
def nxt (ws : List Int) (t f k : Int) : Int := wGet ws (nB t f k + 2)
theorem wGet_w64 {ws : List Int} (h : AllW64 ws) (a : Int) : W64 (wGet ws a) := by
  unfold wGet
  split
  next c =>
    rw [List.getD_eq_getElem?_getD, List.getElem?_eq_getElem (by omega)]
    exact h _ (List.getElem_mem _)
  · exact ⟨by omega, by omega⟩
theorem MapInt.grown {w w' : World} {b n : Nat} {f : Int → Bool} {row : Option Nat} (h : MapInt w b n f) (hg : w.grownBy w' row) (hne : some b ≠ row) : MapInt w' b n f := by
  obtain ⟨D, hi, ho, ha⟩ := h
  exact ⟨D, hi, ho.kept hg hne, ha⟩
theorem infoI10 : (Tryd.prog.info? 3).map (fun i => (i.zero, i.size, i.bytes)) = some (some (.int .i64 0), 1, 8) := by kernel_rfl
def frR (ws : List Int) (s t f : Int) : List Int × Bool := frN (nxt ws t f) s (s.toNat + 1) (wGet ws 2 % 65536) []
def lenV : Value → Nat
  | .slice _ n _ => n
  | _ => 0
def FrIn (s : Int) (nx : Int → Int) (R : List Int × Bool) (w : World) (o i : Value) (wr : World) : Prop :=
  ∃ (x : Int) (l : List Int) (A : Option Addr) (c : Nat), o = .slice A l.length c ∧ i = .int .u64 x ∧ W64 x ∧ Nice s l ∧ frN nx s (s.toNat + 1 - l.length) x l = R ∧
    wr.ownsRow (w.heap.size + 1) 3 1 (.slice A l.length c) l.length (ints .i64 l) ∧ MapInt wr w.heap.size l.length (fun k => decide (k ∈ l)) ∧ w.heap.size + 1 ≤ wr.heap.size ∧ Below w.heap.size w wr
set_option maxRecDepth 100000 in
set_option maxHeartbeats 4000000 in
theorem afree_any (gm gw : Nat) (s t f l p : Int) (ws : List Int) (w : World) (hs : 1 ≤ s ∧ s ≤ 1000) (ht : 1 ≤ t ∧ t ≤ 64) (hf : 4 ≤ f ∧ f ≤ 64) (M : MemOk w gm gw s t f l p ws) (h64 : AllW64 ws) :
    Calls Tryd.prog 17 #[.pointer (some ⟨gm, 0, none⟩)] w fun e w' => (∃ A c, e = .returned (.tuple #[.slice A (frR ws s t f).1.length c, .bool (frR ws s t f).2]) ∧ w'.ownsRow (w.heap.size + 1) 3 1 (.slice A (frR ws s t f).1.length c) (frR ws s t f).1.length (ints .i64 (frR ws s t f).1)) ∧ Below w.heap.size w w' := by
  obtain ⟨i0, hi0, hz0, hs0, hb0⟩ := info_parts infoI10
  have hmm := @run_makeMap Tryd.prog
  have C1 := hide (fun w2 => at_any s t f l p 3 0 0 w2 hs ht hf)
  rw [atp_first (by omega), show (3 : Int) - 1 = 2 by rfl] at C1
  have WD := hide (fun a w2 (h : MemOk w2 gm gw s t f l p ws) => word_any gm gw s t f l p a ws w2 h)
  have C2 := hide (fun w2 => htell_slot (wGet ws 2) w2 (wGet_w64 h64 2))
  have hf0 : ∀ w : World, (Instr.field 23 (.agg #[.int .i64 s, .int .i64 t, .int .i64 f, .int .i64 l, .int .i64 p]) 0).run Tryd.prog w = .ok (.int .i64 s) w := fun _ => by kernel_rfl
  have CC := hide (fun w2 => lconfig_any s t f l p w2)
  have CK := hide (fun (x : Int) (h1 : 1 ≤ x) (h2 : x ≤ s) w2 => by have h := llnk_any s t f l p x w2 hs ht hf; rw [atpB_8 (by omega)] at h; exact h)
  have HW := hide (fun a => wGet_w64 h64 a)
  have HM := hide M
  have hx0 : 0 ≤ wGet ws 2 % 65536 ∧ wGet ws 2 % 65536 < 65536 := by omega
  have hwr : IntKind.u64.wrap (wGet ws 2 % 65536) = wGet ws 2 % 65536 := IntWalk.u64_in _ (by omega)
  have hws : IntKind.u64.wrap s = s := IntWalk.u64_in _ (by omega)
  have m5 := mem5 (M.below ((Below.refl w.heap.size w).alloc (Nat.le_refl _) (.map #[] 0)))
  obtain ⟨m0, m1, m2, m3, m4⟩ := m5
  have HL := hide (And.intro (Blk.lt M.1) (Blk.lt M.2.1))
  clear h64 M
  go_enter Tryd.func17, Tryd.ntmps17
  go_wp2_with fail
  have B0 := (Below.refl w.heap.size w).alloc (Nat.le_refl _) (.map #[] 0)
  have P0 := MapInt.made w
  have O0 : (w.alloc (.map #[] 0)).ownsRow (w.heap.size + 1) 3 1 (.slice none 0 0) 0 (ints .i64 []) := World.ownsRow_nil _ _ _ _
  refine (C1.out _).mono ?_
  rintro e w1 ⟨rfl, hb1⟩
  replace P0 := P0.below hb1
  replace O0 := own_below O0 hb1
  replace B0 := B0.trans (hb1.mono B0.size)
  have hz := hb1.size
  rw [World.size_alloc] at hz
  clear hb1 m0 m1 m2 m3 m4
  go_wp2_with fail
  refine (WD.out _ _ (HM.out.below B0)).mono ?_
  rintro e w2 ⟨rfl, rfl⟩
  go_wp2_with fail
  refine (C2.out _).mono ?_
  rintro e w3 ⟨rfl, hb1⟩
  replace P0 := P0.below hb1
  replace O0 := own_below O0 hb1
  replace B0 := B0.trans (hb1.mono B0.size)
  replace hz := Nat.le_trans hz hb1.size
  clear hb1
  go_wp2_with fail
  have HX := hide hx0
  clear hx0
  go_loopw [4, 6] (FrIn s (nxt ws t f) (frR ws s t f) w) (fun o _ _ => s.toNat + 1 - lenV o)
  case atStart => exact ⟨_, [], none, 0, rfl, rfl, ⟨by have := HX.out; omega, by have := HX.out; omega⟩, nice_nil s, rfl, O0, P0, hz, B0⟩
  case round =>
    clear B0 P0 O0 hz hwr
    obtain ⟨x, l, A, c, rfl, rfl, hx, hN, hR, ho, hp, hz, B⟩ := hrel
    have hlen := nice_len s.toNat l (by rw [Int.toNat_of_nonneg (by omega)]; exact hN)
    obtain ⟨n, hn⟩ : ∃ n, s.toNat + 1 - l.length = n + 1 := ⟨s.toNat - l.length, by omega⟩
    rw [hn] at hR
    unfold frN at hR
    have hR := hide hR
    obtain ⟨hx1, hx2⟩ := hx
    have HNI := hide hN
    have HNN := hide hn
    have HLN := hide hlen
    clear hN hn hlen
    by_cases h0 : x = 0
    · have e := hR.out
      rw [if_pos h0] at e
      subst h0
      have HE := hide e
      clear e hR
      go_wp2_with fail
      go_ret2
      refine ⟨⟨A, c, ?_, ?_⟩, B⟩
      · rw [← HE.out]; rfl
      · rw [← HE.out]; exact ho
    · have d0 : (x != 0) = true := by simpa using h0
      have HX1 := hide (show 1 ≤ x by omega)
      have m5 := mem5 (HM.out.below B)
      obtain ⟨m0, m1, m2, m3, m4⟩ := m5
      have R1 := hide ((if_neg h0).symm.trans hR.out)
      clear h0 hR
      by_cases h1 : s < x
      · have e := R1.out
        rw [if_pos (.inl h1)] at e
        have HE := hide e
        have d1 : decide (s < x) = true := by rw [decide_eq_true_iff]; exact h1
        clear e R1 h1
        go_wp2_with fail
        refine (CC.out _).mono ?_
        rintro e w4 ⟨rfl, hb1⟩
        replace ho := own_below ho hb1
        replace B := B.trans (hb1.mono B.size)
        clear hb1 m0 m1 m2 m3 m4
        go_wp2_with fail
        go_ret2
        refine ⟨⟨A, c, ?_, ?_⟩, B⟩
        · rw [← HE.out]; rfl
        · rw [← HE.out]; exact ho
      · have d1 : decide (s < x) = false := by rw [decide_eq_false_iff_not]; exact h1
        have hxs : x ≤ s := by omega
        have hwx : IntKind.i64.wrap x = x := IntWalk.i64_in _ (by omega)
        have hwf : (Lit.int .i64 x).wf = true := by
          simp only [Lit.wf, Bool.and_eq_true, decide_eq_true_eq]
          exact ⟨by show (-9223372036854775808 : Int) ≤ x; omega, by show x ≤ (9223372036854775807 : Int); omega⟩
        have HWF := hide hwf
        clear hwf
        by_cases h2 : x ∈ l
        · have e := R1.out
          rw [if_pos (.inr h2)] at e
          have HE := hide e
          have d2 : decide (x ∈ l) = true := by rw [decide_eq_true_iff]; exact h2
          clear e R1 h1 h2
          go_wp2_with fail
          refine (CC.out _).mono ?_
          rintro e w4 ⟨rfl, hb1⟩
          replace ho := own_below ho hb1
          replace hp := hp.below hb1
          replace B := B.trans (hb1.mono B.size)
          clear hb1 m0 m1 m2 m3 m4
          have hlk := hp.look x HWF.out
          simp only [d2] at hlk
          go_wp2_with fail
          go_ret2
          refine ⟨⟨A, c, ?_, ?_⟩, B⟩
          · rw [← HE.out]; rfl
          · rw [← HE.out]; exact ho
        · have e := R1.out
          rw [if_neg (fun h => h.elim h1 h2)] at e
          have HE := hide e
          have d2 : decide (x ∈ l) = false := by rw [decide_eq_false_iff_not]; exact h2
          have HS2 := hide (nice_snoc HNI.out ⟨HX1.out, hxs⟩ h2)
          have HF := hide (show (fun j => if j = x then true else decide (j ∈ l)) = (fun j => decide (j ∈ l ++ [x])) from by
            funext j
            by_cases hj : j = x
            · subst hj; simp
            · rw [if_neg hj]; simp [hj])
          clear e R1 h1 h2
          have hll : l.length < maxLen := by have := HLN.out; unfold maxLen; omega
          have hl2 : l.length ≤ 4294967296 := by have := HLN.out; omega
          go_wp2_with fail
          refine (CC.out _).mono ?_
          rintro e w4 ⟨rfl, hb1⟩
          replace ho := own_below ho hb1
          replace hp := hp.below hb1
          replace B := B.trans (hb1.mono B.size)
          replace hz := Nat.le_trans hz hb1.size
          clear hb1 m0 m1 m2 m3 m4
          have hlk := hp.look x HWF.out
          simp only [d2] at hlk
          have HLK := hide hlk
          have CKx := hide (CK.out x HX1.out hxs)
          go_wp2_with (first
            | (at_mapUpdate
               refine wpList_mapUpdate_boolI rfl (.tmp 41) (.tmp 42) (.const (.bool true)) rfl rfl hp hll x true rfl rfl HWF.out ?_
               intro w5 hp5 hg5
               have B5 := B.grown hg5 B.size (fun g e => by injection e; omega)
               have ho5 := ho.kept hg5 (.inr (fun e => by have := (ho.lt _ e).1; omega))
               have hz5 := Nat.le_trans hz hg5.size
               rw [HF.out] at hp5
               have ho6 := ho5.alloc (.cells #[.int .i64 x] 3)
               clear hlk HLK hp ho B hz hg5)
            | (at_builtin
               refine wpList_append_one rfl (.tmp 43) (.tmp 45) _ rfl (w.heap.size + 1) 3 i0 _ 1 8 Tryd.underlying43 hi0 hz0 hs0 hb0 rfl (by omega) (by omega) (.slice A l.length c) l.length _ rfl ho6 w5.heap.size #[.int .i64 x] rfl (Blk.new _ _ _) rfl rfl hl2 (by rw [World.size_alloc]; omega) ?_
               intro A3 c3 w6 ho7 hg6 hat6
               have B6 := below_appended (B5.alloc (by omega) (.cells #[.int .i64 x] 3)) ho6 hg6 (by omega) (by rw [World.size_alloc]; omega)
               have hp6 := (hp5.alloc (.cells #[.int .i64 x] 3)).grown hg6 (fun e => by have := (ho6.lt _ e.symm).1; omega)
               have hz6 : w.heap.size + 1 ≤ w6.heap.size := by have := hg6.size; rw [World.size_alloc] at this; omega
               obtain ⟨m0, m1, m2, m3, m4⟩ := mem5 (HM.out.below B6)))
          refine (CKx.out _).mono ?_
          rintro e w7 ⟨rfl, hb1⟩
          replace ho7 := own_below ho7 hb1
          replace hp6 := hp6.below hb1
          replace B6 := B6.trans (hb1.mono B6.size)
          replace hz6 := Nat.le_trans hz6 hb1.size
          clear hb1 m0 m1 m2 m3 m4
          go_wp2_with fail
          refine (WD.out _ _ (HM.out.below B6)).mono ?_
          rintro e w8 ⟨rfl, rfl⟩
          go_wp2_with fail
          go_roundw
          case measure => simp [lenV]; have := HLN.out; omega
          case rel => exact ⟨nxt ws t f x, l ++ [x], A3, c3, by rw [List.length_append]; rfl, rfl, HW.out _, HS2.out, by rw [List.length_append, show s.toNat + 1 - (l.length + [x].length) = n by have := HNN.out; simp only [List.length_singleton]; omega]; exact HE.out, by rw [List.length_append, ints_append]; exact ho7, by rw [List.length_append]; exact hp6, hz6, B6⟩
end Go.Proofs.YtegldbhabeoboaaDoor

/-
  The list of free slots of a machine that begins: from 2 on.
-/
namespace Go.Proofs.YtegldbhabeoboaaDoor
open Go.RowKit

/-- So many slots, from 2 on. -/
def rg2 (n : Nat) : List Int := (List.range n).map fun (i : Nat) => (i : Int) + 2
theorem rg2_len (n : Nat) : (rg2 n).length = n := by simp [rg2]
theorem rg2_succ (n : Nat) : rg2 (n + 1) = rg2 n ++ [(n : Int) + 2] := by simp [rg2, List.range_succ]
theorem rg2_mem (n : Nat) (x : Int) : x ∈ rg2 n ↔ 2 ≤ x ∧ x < (n : Int) + 2 := by
  simp only [rg2, List.mem_map, List.mem_range]
  constructor
  · rintro ⟨i, hi, rfl⟩
    omega
  · intro h
    exact ⟨(x - 2).toNat, by omega, by omega⟩
theorem beg_get {s t f a : Int} (h : 0 ≤ a ∧ a < laySize s t f) : wGet (begL s t f) a = begAt s t f a := by
  unfold wGet
  have hl := begL_len s t f
  rw [if_pos (by omega), begL_at (by omega)]
  rw [show ((a.toNat : Nat) : Int) = a by omega]
theorem beg_nxt {s t f k : Int} (hs : 1 ≤ s ∧ s ≤ 1000) (ht : 1 ≤ t ∧ t ≤ 64) (hf : 4 ≤ f ∧ f ≤ 64) (hk : 2 ≤ k ∧ k ≤ s) : nxt (begL s t f) t f k = if k < s then k + 1 else 0 := by
  unfold nxt
  have b := nB_bd hs ht hf (sl := k) (by omega)
  rw [beg_get (by omega)]
  have h2 := (at_or (t := t) (f := f) (j := nB t f k + 2) (k := k) (c := 2) (by omega) (by omega)).1 rfl
  have hp : nB t f k + 2 ≠ 2 := by
    have : 0 ≤ k * (3 + 2 * f) := Int.mul_nonneg (by omega) (by omega)
    unfold nB
    omega
  unfold begAt
  rw [if_neg hp]
  unfold bK bOR
  rw [h2.1, h2.2]
  repeat' split
  all_goals omega
theorem frN_beg {s t f : Int} (hs : 1 ≤ s ∧ s ≤ 1000) (ht : 1 ≤ t ∧ t ≤ 64) (hf : 4 ≤ f ∧ f ≤ 64) : ∀ (d m n : Nat), (m : Int) + 2 + d = s → d + 2 ≤ n → frN (nxt (begL s t f) t f) s n ((m : Int) + 2) (rg2 m) = (rg2 (m + d + 1), true)
  | 0, m, n, hm, hn => by
    obtain ⟨n, rfl⟩ : ∃ n', n = n' + 2 := ⟨n - 2, by omega⟩
    unfold frN
    rw [if_neg (by omega), if_neg (by rw [rg2_mem]; omega), beg_nxt hs ht hf (by omega), if_neg (by omega), ← rg2_succ]
    unfold frN
    rw [if_pos rfl]
  | d + 1, m, n, hm, hn => by
    obtain ⟨n, rfl⟩ : ∃ n', n = n' + 1 := ⟨n - 1, by omega⟩
    unfold frN
    rw [if_neg (by omega), if_neg (by rw [rg2_mem]; omega), beg_nxt hs ht hf (by omega), if_pos (by omega), ← rg2_succ]
    have h := frN_beg hs ht hf d (m + 1) n (by omega) (by omega)
    rw [show (m : Int) + 2 + 1 = ((m + 1 : Nat) : Int) + 2 by omega, h, show m + 1 + d + 1 = m + (d + 1) + 1 by omega]
theorem frR_beg {s t f : Int} (hs : 1 ≤ s ∧ s ≤ 1000) (ht : 1 ≤ t ∧ t ≤ 64) (hf : 4 ≤ f ∧ f ≤ 64) : frR (begL s t f) s t f = (rg2 (s - 1).toNat, true) := by
  unfold frR
  have hsp := size_pos hs ht hf
  rw [beg_get (by omega)]
  unfold begAt
  rw [if_pos rfl]
  by_cases h : 2 ≤ s
  · rw [if_pos h, show (2 : Int) % 65536 = ((0 : Nat) : Int) + 2 by rfl]
    have h := frN_beg hs ht hf (s - 2).toNat 0 (s.toNat + 1) (by omega) (by omega)
    rw [show 0 + (s - 2).toNat + 1 = (s - 1).toNat by omega, show rg2 0 = [] from rfl] at h
    exact h
  · rw [if_neg h, show (s - 1).toNat = 0 by omega]
    unfold frN
    rw [if_pos (by rfl)]
    rfl
end Go.Proofs.YtegldbhabeoboaaDoor

/-
  arena.Root: the word at slot 0's first value.
-/
namespace Go.Proofs.YtegldbhabeoboaaDoor
open Go.RowKit

set_option maxRecDepth 100000 in
set_option maxHeartbeats 1000000 in
theorem aroot_any (gm gw : Nat) (s t f l p : Int) (ws : List Int) (w : World) (hs : 1 ≤ s ∧ s ≤ 1000) (ht : 1 ≤ t ∧ t ≤ 64) (hf : 4 ≤ f ∧ f ≤ 64) (M : MemOk w gm gw s t f l p ws) :
    Calls Tryd.prog 26 #[.pointer (some ⟨gm, 0, none⟩)] w fun e w' => e = .returned (.int .u64 (wGet ws (nB t f 0 + 3 + f))) ∧ Below w.heap.size w w' := by
  have C := hide (fun w2 => lval_any s t f l p 0 0 w2 hs ht hf)
  rw [atpB_10 (by omega) (by omega), show nB t f 0 + 3 + f + 0 = nB t f 0 + 3 + f by omega] at C
  have WD := hide (fun w2 (h : MemOk w2 gm gw s t f l p ws) => word_any gm gw s t f l p (nB t f 0 + 3 + f) ws w2 h)
  have HM := hide M
  obtain ⟨m0, m1, m2, m3, m4⟩ := mem5 M
  generalize nB t f 0 + 3 + f = a at *
  clear M
  go_enter Tryd.func26, Tryd.ntmps26
  go_wp2_with fail
  refine (C.out _).mono ?_
  rintro e w1 ⟨rfl, hb⟩
  go_wp2_with fail
  refine (WD.out _ (HM.out.below hb)).mono ?_
  rintro e w2 ⟨rfl, rfl⟩
  go_wp2_with fail
  go_ret
  exact ⟨rfl, hb⟩
theorem beg_root {s t f : Int} (hs : 1 ≤ s ∧ s ≤ 1000) (ht : 1 ≤ t ∧ t ≤ 64) (hf : 4 ≤ f ∧ f ≤ 64) : wGet (begL s t f) (nB t f 0 + 3 + f) = 65537 := by
  have b := nB_bd hs ht hf (sl := 0) (by omega)
  rw [beg_get (by omega)]
  have h2 := (at_or (t := t) (f := f) (j := nB t f 0 + 3 + f) (k := 0) (c := 3 + f) (by omega) (by omega)).1 (by omega)
  have hp : nB t f 0 + 3 + f ≠ 2 := by unfold nB; omega
  unfold begAt
  rw [if_neg hp]
  unfold bK bOR
  rw [h2.1, h2.2]
  repeat' split
  all_goals omega
end Go.Proofs.YtegldbhabeoboaaDoor

/-
  arena.row of no words.
-/
namespace Go.Proofs.YtegldbhabeoboaaDoor
open Go.RowKit

def RowZ (w : World) (o i : Value) (wr : World) : Prop := o = .slice none 0 0 ∧ i = .int .i64 0 ∧ w = wr
set_option maxRecDepth 100000 in
set_option maxHeartbeats 1000000 in
theorem arow_zero (m fv : Value) (w : World) :
    Calls Tryd.prog 62 #[m, .int .i64 0, fv] w fun e w' => e = .returned (.slice none 0 0) ∧ w = w' := by
  go_enter Tryd.func62, Tryd.ntmps62
  go_wp2_with fail
  go_loopw [7, 10] (RowZ w) (fun _ _ _ => 0)
  case atStart => exact ⟨rfl, rfl, rfl⟩
  case round =>
    obtain ⟨rfl, rfl, rfl⟩ := hrel
    go_wp2_with fail
    go_ret
    exact ⟨rfl, rfl⟩
end Go.Proofs.YtegldbhabeoboaaDoor

/-
  arena.row over any closure that tells places; arena.Node's two closures.
-/
namespace Go.Proofs.YtegldbhabeoboaaDoor
open Go.RowKit

/-- So many words, at places that a function tells. -/
def rowL (ws : List Int) (g : Nat → Int) (n : Nat) : List Int := (List.range n).map fun i => wGet ws (g i)
theorem rowL_succ (ws : List Int) (g : Nat → Int) (n : Nat) : rowL ws g (n + 1) = rowL ws g n ++ [wGet ws (g n)] := by simp [rowL, List.range_succ]
theorem rowL_len (ws : List Int) (g : Nat → Int) (n : Nat) : (rowL ws g n).length = n := by simp [rowL]
theorem rowL_congr {ws : List Int} {g g' : Nat → Int} {n : Nat} (h : ∀ i, i < n → g i = g' i) : rowL ws g n = rowL ws g' n := by
  unfold rowL
  exact List.map_congr_left fun i hi => by rw [h i (List.mem_range.1 hi)]
def RowG (ws : List Int) (g : Nat → Int) (n : Nat) (w : World) (o i : Value) (wr : World) : Prop :=
  ∃ (k : Nat) (A : Option Addr) (c : Nat), k ≤ n ∧ i = .int .i64 k ∧ o = .slice A k c ∧ wr.ownsRow w.heap.size 32 1 (.slice A k c) k (ints .u64 (rowL ws g k)) ∧ Below w.heap.size w wr
set_option maxRecDepth 100000 in
set_option maxHeartbeats 2000000 in
theorem arow_any (gm gw K : Nat) (s t f l p : Int) (ws : List Int) (n : Nat) (caps : Array Value) (g : Nat → Int) (w : World) (hn : n ≤ 64) (M : MemOk w gm gw s t f l p ws)
    (hcf : ∀ args w, (callFunc K args).run Tryd.prog w = .ok (.enter K args) w)
    (hK : ∀ (i : Nat) w2, i < n → Below w.heap.size w w2 → Calls Tryd.prog K (#[.int .i64 i] ++ caps) w2 fun e w' => e = .returned (.int .i64 (g i)) ∧ Below w2.heap.size w2 w') :
    Calls Tryd.prog 62 #[.pointer (some ⟨gm, 0, none⟩), .int .i64 n, .func (.func K) #[] caps] w fun e w' => (∃ A c, e = .returned (.slice A n c) ∧ w'.ownsRow w.heap.size 32 1 (.slice A n c) n (ints .u64 (rowL ws g n))) ∧ Below w.heap.size w w' := by
  obtain ⟨i0, hi0, hz0, hs0, hb0⟩ := info_parts infoU64
  have HK := hide hK
  have WD := hide (fun a w2 (h : MemOk w2 gm gw s t f l p ws) => word_any gm gw s t f l p a ws w2 h)
  have HM := hide M
  have HN := hide hn
  clear hK M hn
  go_enter Tryd.func62, Tryd.ntmps62
  go_wp2_with fail
  go_loopw [7, 10] (RowG ws g n w) (fun _ i _ => n - (intOf i).toNat)
  case atStart => exact ⟨0, none, 0, Nat.zero_le _, rfl, rfl, World.ownsRow_nil _ _ _ _, Below.refl _ _⟩
  case round =>
    obtain ⟨k, A, c, hk, rfl, rfl, ho, B⟩ := hrel
    by_cases hlt : k < n
    · have CK := hide (HK.out k wr hlt B)
      have hL := hide (rowL_succ ws g k)
      have hlk : k ≤ 4294967296 := by have := HN.out; omega
      have hlt2 : (k : Int) < (n : Int) := by omega
      have HB := hide B
      have h64 := HN.out
      have hkc := hide (show ((k + 1 : Nat) : Int) = (k : Int) + 1 by omega)
      have hll : (rowL ws g k).length = k := rowL_len ws g k
      generalize rowL ws g k = zs at *
      generalize g k = a at *
      go_wp2_with fail
      refine (CK.out).mono ?_
      rintro e w1 ⟨rfl, hb1⟩
      have ho1 := own_below ho hb1
      have B1 := B.trans (hb1.mono B.size)
      clear hb1 ho B
      go_wp2_with fail
      refine (WD.out _ _ (HM.out.below B1)).mono ?_
      rintro e w2 ⟨rfl, rfl⟩
      generalize wGet ws a = x at *
      have hsz := B1.size
      go_wp2_with (at_builtin
                   refine wpList_append_one rfl (.tmp 13) (.tmp 19) _ rfl w.heap.size 32 i0 _ 1 8 Tryd.underlying29 hi0 hz0 hs0 hb0 rfl (by omega) (by omega) (.slice A k c) k _ rfl (ho1.alloc (.cells #[.int .u64 x] 32)) w1.heap.size #[.int .u64 x] rfl (Blk.new _ _ _) rfl rfl hlk (by rw [World.size_alloc]; omega) ?_
                   intro A3 c3 w3 ho3 hg3 hat3
                   have B3 := below_appended (B1.alloc hsz (.cells #[.int .u64 x] 32)) (ho1.alloc (.cells #[.int .u64 x] 32)) hg3 (by omega) (by rw [World.size_alloc]; omega))
      go_roundw
      case measure => simp [intOf]; omega
      case rel => exact ⟨k + 1, A3, c3, by omega, by rw [hkc.out], rfl, by rw [hL.out, ints_append]; exact ho3, B3⟩
    · obtain rfl : k = n := by omega
      go_wp2_with fail
      go_ret
      exact ⟨⟨A, c, rfl, ho⟩, B⟩
end Go.Proofs.YtegldbhabeoboaaDoor

/-
  Package leaf: joined, fit.
-/
namespace Go.Proofs.YtegldbhabeoboaaDoor
open Go.RowKit

theorem Own.alloc {w : World} {lo : Nat} {v : Value} {xs : List Int} (h : Own w lo v xs) (o : Obj) : Own (w.alloc o) lo v xs := h.below ((Below.refl _ _).alloc (Nat.le_refl _) o)
theorem reads2 {w : World} {g B : Nat} {x y : Value} (h0 : w.cell? ⟨g, 0, none⟩ = some x) (h1 : w.cell? ⟨g, 1, none⟩ = some y) (hg : g < B) : Reads w B 1 (some ⟨g, 0, none⟩) 2 [x, y] := by
  refine ⟨rfl, fun _ => ⟨_, rfl, hg, fun j u hu => ?_⟩⟩
  rw [Addr.add_lit]
  match j, hu with
  | 0, hu => simpa [h0] using hu
  | 1, hu => simpa [h1] using hu
  | j + 2, hu => simp at hu

end Go.Proofs.YtegldbhabeoboaaDoor

/-
  A node that grows word by word: what an append to one of its lists leaves of the rest.
-/
namespace Go.Proofs.YtegldbhabeoboaaDoor
open Go.RowKit

theorem own_old {w : World} {B : Nat} {e : TypeId} {s n g : Nat} {xs : List Value} {v : Value} (h : w.ownsRow B e s v n xs) (hg : w.heap.size ≤ g) : some g ≠ v.ownBlock := fun e' => by
  have := (h.lt g e'.symm).2
  omega
/-- What an append to the row v leaves of another row, and of a block. -/
theorem push_row {w w' : World} {lo : Nat} {e : TypeId} {s m : Nat} {ys : List Value} {v u v' : Value} (h2 : w.ownsRow lo e s u m ys) (ha : Apart v u) (hgr : w.grownBy w' v.ownBlock) (hat : v'.ownBlock = v.ownBlock ∨ v'.ownBlock = some w.heap.size) :
    w'.ownsRow lo e s u m ys ∧ Apart v' u := ⟨own_kept h2 hgr ha, ha.grown h2 hat⟩
theorem Nd.of_rows {w : World} {lo : Nat} {b : Bool} {l : Int} {A1 A2 : Option Addr} {c1 c2 : Nat} {ks vs : List Int} (h1 : w.ownsRow lo 32 1 (.slice A1 ks.length c1) ks.length (ints .u64 ks)) (h2 : w.ownsRow lo 32 1 (.slice A2 vs.length c2) vs.length (ints .u64 vs)) :
    NdO w lo (.agg #[.bool b, .slice A1 ks.length c1, .slice A2 vs.length c2, .int .u64 l]) b ks vs l := ⟨_, _, rfl, h1, h2⟩
theorem cellsN {w : World} {g : Nat} {T : TypeId} {c0 c1 c2 c3 : Value} (h : Blk w g T #[c0, c1, c2, c3]) : w.cell? ⟨g, 0, none⟩ = some c0 ∧ w.cell? ⟨g, 1, none⟩ = some c1 ∧ w.cell? ⟨g, 2, none⟩ = some c2 ∧ w.cell? ⟨g, 3, none⟩ = some c3 := ⟨h.cell 0, h.cell 1, h.cell 2, h.cell 3⟩
theorem cellsP {w : World} {g : Nat} {T : TypeId} {c0 c1 : Value} (h : Blk w g T #[c0, c1]) : w.cell? ⟨g, 0, none⟩ = some c0 ∧ w.cell? ⟨g, 1, none⟩ = some c1 := ⟨h.cell 0, h.cell 1⟩
theorem Blk.setK {w : World} {g : Nat} {t : TypeId} {a b c d : Value} (h : Blk w g t #[a, b, c, d]) (x : Value) : Blk (w.setCell ⟨g, 1, none⟩ x) g t #[a, x, c, d] := by
  have b9 := h.set_ 1 x
  simpa only [List.setIfInBounds_toArray, List.set_cons_zero, List.set_cons_succ] using b9
theorem Blk.setV {w : World} {g : Nat} {t : TypeId} {a b c d : Value} (h : Blk w g t #[a, b, c, d]) (x : Value) : Blk (w.setCell ⟨g, 2, none⟩ x) g t #[a, b, x, d] := by
  have b9 := h.set_ 2 x
  simpa only [List.setIfInBounds_toArray, List.set_cons_zero, List.set_cons_succ] using b9
theorem Blk.setN {w : World} {g : Nat} {t : TypeId} {a b c d : Value} (h : Blk w g t #[a, b, c, d]) (x y z u : Value) : Blk ((((w.setCell ⟨g, 0, none⟩ x).setCell ⟨g, 1, none⟩ y).setCell ⟨g, 2, none⟩ z).setCell ⟨g, 3, none⟩ u) g t #[x, y, z, u] := by
  have b9 := (((h.set_ 0 x).set_ 1 y).set_ 2 z).set_ 3 u
  simpa only [List.setIfInBounds_toArray, List.set_cons_zero, List.set_cons_succ] using b9
theorem below_setN {B : Nat} {a w : World} (h : Below B a w) {g : Nat} (hg : B ≤ g) (x y z u : Value) : Below B a ((((w.setCell ⟨g, 0, none⟩ x).setCell ⟨g, 1, none⟩ y).setCell ⟨g, 2, none⟩ z).setCell ⟨g, 3, none⟩ u) :=
  (((h.setCell (p := ⟨g, 0, none⟩) hg x).setCell (p := ⟨g, 1, none⟩) hg y).setCell (p := ⟨g, 2, none⟩) hg z).setCell (p := ⟨g, 3, none⟩) hg u
theorem NdO.farN {w : World} {lo : Nat} {v : Value} {b : Bool} {ks vs : List Int} {l : Int} (h : NdO w lo v b ks vs l) {g : Nat} (hg : g < lo) (x y z u : Value) : NdO ((((w.setCell ⟨g, 0, none⟩ x).setCell ⟨g, 1, none⟩ y).setCell ⟨g, 2, none⟩ z).setCell ⟨g, 3, none⟩ u) lo v b ks vs l :=
  (((h.far (p := ⟨g, 0, none⟩) hg x).far (p := ⟨g, 1, none⟩) hg y).far (p := ⟨g, 2, none⟩) hg z).far (p := ⟨g, 3, none⟩) hg u
theorem own_farN {w : World} {B g : Nat} {e : TypeId} {s n : Nat} {xs : List Value} {v : Value} (h : w.ownsRow B e s v n xs) (hg : g < B) (x y z u : Value) : ((((w.setCell ⟨g, 0, none⟩ x).setCell ⟨g, 1, none⟩ y).setCell ⟨g, 2, none⟩ z).setCell ⟨g, 3, none⟩ u).ownsRow B e s v n xs :=
  own_setCell_far (own_setCell_far (own_setCell_far (own_setCell_far h (p := ⟨g, 0, none⟩) hg x) (p := ⟨g, 1, none⟩) hg y) (p := ⟨g, 2, none⟩) hg z) (p := ⟨g, 3, none⟩) hg u
/-- The keys, the values of pairs. -/
def fstL (l : List (Int × Int)) : List Int := l.map Prod.fst
def sndL (l : List (Int × Int)) : List Int := l.map Prod.snd
theorem fstL_len (l : List (Int × Int)) : (fstL l).length = l.length := by simp [fstL]
theorem sndL_len (l : List (Int × Int)) : (sndL l).length = l.length := by simp [sndL]
theorem fstL_take (l : List (Int × Int)) (k : Nat) (h : k < l.length) : fstL (l.take (k + 1)) = fstL (l.take k) ++ [l[k].1] := by unfold fstL; rw [take_snoc' l k h, List.map_append]; rfl
theorem sndL_take (l : List (Int × Int)) (k : Nat) (h : k < l.length) : sndL (l.take (k + 1)) = sndL (l.take k) ++ [l[k].2] := by unfold sndL; rw [take_snoc' l k h, List.map_append]; rfl
theorem right_pairs (l : List (Int × Int)) : rightB false (fstL l) (sndL l) = riseB (fstL l) := by
  unfold rightB
  simp [fstL_len, sndL_len]
end Go.Proofs.YtegldbhabeoboaaDoor

/-
  arena.Node of any slot.
-/
namespace Go.Proofs.YtegldbhabeoboaaDoor
open Go.RowKit Go.Shelf

theorem own_setT {w : World} {B g : Nat} {e T : TypeId} {s n : Nat} {xs : List Value} {v : Value} {cs : Array Value} (h : w.ownsRow B e s v n xs) (hb : Blk w g T cs) (hne : e ≠ T) (f : Nat) (u : Value) : (w.setCell ⟨g, f, none⟩ u).ownsRow B e s v n xs :=
  h.kept (grown_set w g f u) (.inr (own_blk_ne h hb hne))
theorem cell_old {w w' : World} {q : Addr} {v : Value} (hb : Below w.heap.size w w') (h : w.cell? q = some v) : w'.cell? q = some v := by
  have hlt : q.block < w.heap.size := by
    unfold World.cell? at h
    cases ho : w.heap[q.block]? with
    | none => simp [ho] at h
    | some o => exact (Array.getElem?_eq_some_iff.1 ho).1
  exact (hb.cell hlt).trans h
set_option maxRecDepth 100000 in
set_option maxHeartbeats 4000000 in
theorem akey1_any (gm gw bm0 bs0 : Nat) (s t f l p k i : Int) (ws : List Int) (w : World) (hs : 1 ≤ s ∧ s ≤ 1000) (ht : 1 ≤ t ∧ t ≤ 64) (hf : 4 ≤ f ∧ f ≤ 64) (hk : 0 ≤ k ∧ k ≤ s) (hi : 0 ≤ i ∧ i < f) (M : MemOk w gm gw s t f l p ws)
    (bm : w.cell? ⟨bm0, 0, none⟩ = some (.pointer (some ⟨gm, 0, none⟩))) (bs : w.cell? ⟨bs0, 0, none⟩ = some (.int .i64 k)) :
    Calls Tryd.prog 63 #[.int .i64 i, .pointer (some ⟨bm0, 0, none⟩), .pointer (some ⟨bs0, 0, none⟩)] w fun e w' => e = .returned (.int .i64 (nB t f k + 3 + i)) ∧ Below w.heap.size w w' := by
  have C := hide (fun w2 => lkey_any s t f l p k i w2 hs ht hf)
  rw [atpB_9 hk hi] at C
  obtain ⟨m0, m1, m2, m3, m4⟩ := mem5 M
  generalize nB t f k + 3 + i = r at *
  clear hi hk hs ht hf M
  have B := Below.refl w.heap.size w
  go_enter Tryd.func63, Tryd.ntmps63
  go_wp2_with fail
  refine wp_region_heldZ [] (fun w' => w'.cell? ⟨bm0, 0, none⟩ = some (.pointer (some ⟨gm, 0, none⟩)) ∧ w'.cell? ⟨bs0, 0, none⟩ = some (.int .i64 k) ∧ w'.cell? ⟨gm, 0, none⟩ = some (.int .i64 s) ∧ w'.cell? ⟨gm, 1, none⟩ = some (.int .i64 t) ∧ w'.cell? ⟨gm, 2, none⟩ = some (.int .i64 f) ∧ w'.cell? ⟨gm, 3, none⟩ = some (.int .i64 l) ∧ w'.cell? ⟨gm, 4, none⟩ = some (.int .i64 p)) (by kernel_rfl) (by exact ⟨bm, bs, m0, m1, m2, m3, m4⟩) (fun hHeld => ?_)
  refine' wpAnyZ_takeA (i := 0) (v := ?_) (opAt rfl) (by kernel_rfl) (by kernel_rfl) (by kernel_rfl) (by kernel_rfl) (fun _ _ _ h => h) (by assumption) (by rfl) (fun w hSw => ?_) ?_
  rotate_left
  · (try dsimp only at hSw); go_simp; (try with_reducible rfl)
  try simp only [Act.put, List.setIfInBounds_toArray, List.set_cons_zero, List.set_cons_succ]
  refine' wpAnyZ_takeA (i := 1) (v := ?_) (opAt rfl) (by kernel_rfl) (by kernel_rfl) (by kernel_rfl) (by kernel_rfl) (fun _ _ _ h => h) (by assumption) (by rfl) (fun w hSw => ?_) ?_
  rotate_left
  · (try dsimp only at hSw); go_simp; (try with_reducible rfl)
  try simp only [Act.put, List.setIfInBounds_toArray, List.set_cons_zero, List.set_cons_succ]
  refine' wpAnyZ_takeA (i := 2) (v := ?_) (opAt rfl) (by kernel_rfl) (by kernel_rfl) (by kernel_rfl) (by kernel_rfl) (fun _ _ _ h => h) (by assumption) (by rfl) (fun w hSw => ?_) ?_
  rotate_left
  · (try dsimp only at hSw); go_simp; (try with_reducible rfl)
  try simp only [Act.put, List.setIfInBounds_toArray, List.set_cons_zero, List.set_cons_succ]
  refine' wpAnyZ_takeA (i := 3) (v := ?_) (opAt rfl) (by kernel_rfl) (by kernel_rfl) (by kernel_rfl) (by kernel_rfl) (fun _ _ _ h => h) (by assumption) (by rfl) (fun w hSw => ?_) ?_
  rotate_left
  · (try dsimp only at hSw); go_simp; (try with_reducible rfl)
  try simp only [Act.put, List.setIfInBounds_toArray, List.set_cons_zero, List.set_cons_succ]
  refine' wpAnyZ_takeA (i := 4) (v := ?_) (opAt rfl) (by kernel_rfl) (by kernel_rfl) (by kernel_rfl) (by kernel_rfl) (fun _ _ _ h => h) (by assumption) (by rfl) (fun w hSw => ?_) ?_
  rotate_left
  · (try dsimp only at hSw); go_simp; (try with_reducible rfl)
  try simp only [Act.put, List.setIfInBounds_toArray, List.set_cons_zero, List.set_cons_succ]
  refine' wpAnyZ_takeA (i := 5) (v := ?_) (opAt rfl) (by kernel_rfl) (by kernel_rfl) (by kernel_rfl) (by kernel_rfl) (fun _ _ _ h => h) (by assumption) (by rfl) (fun w hSw => ?_) ?_
  rotate_left
  · (try dsimp only at hSw); go_simp; (try with_reducible rfl)
  try simp only [Act.put, List.setIfInBounds_toArray, List.set_cons_zero, List.set_cons_succ]
  refine wpAnyZ_ready (rs := [6]) (by kernel_rfl) (by simp) ?_
  refine AllReadyZ.cons (opAt rfl) (fun K hK => ?_) ?_
  · skip
    go_simp
    refine (C.out _).mono ?_
    rintro e w1 ⟨rfl, hb1⟩
    have hc := fun (q : Addr) v (h : w.drew.cell? q = some v) => cell_old hb1 h
    replace bm := hc _ _ bm
    replace bs := hc _ _ bs
    replace m0 := hc _ _ m0
    replace m1 := hc _ _ m1
    replace m2 := hc _ _ m2
    replace m3 := hc _ _ m3
    replace m4 := hc _ _ m4
    clear hc
    replace B := B.drew.trans (hb1.mono B.drew.size)
    clear hb1
    try go_wp2_with fail
    refine hK.out _ _ (by exact ⟨bm, bs, m0, m1, m2, m3, m4⟩) (fun hHeld => ?_)
    clear hK K
    try simp only [Act.put, List.setIfInBounds_toArray, List.set_cons_zero, List.set_cons_succ]
    refine' wpAnyZ_takeA (i := 7) (v := ?_) (opAt rfl) (by kernel_rfl) (by kernel_rfl) (by kernel_rfl) (by kernel_rfl) (fun _ _ _ h => h) (by assumption) (by rfl) (fun w hSw => ?_) ?_
    rotate_left
    · (try dsimp only at hSw); go_simp; (try with_reducible rfl)
    try simp only [Act.put, List.setIfInBounds_toArray, List.set_cons_zero, List.set_cons_succ]
    refine wpAnyZ_done (by kernel_rfl) ?_ _
    go_wp2_with fail
    go_ret
    exact ⟨rfl, B⟩
  exact AllReadyZ.nil
set_option maxRecDepth 100000 in
set_option maxHeartbeats 4000000 in
theorem aval1_any (gm gw bm0 bs0 : Nat) (s t f l p k i : Int) (ws : List Int) (w : World) (hs : 1 ≤ s ∧ s ≤ 1000) (ht : 1 ≤ t ∧ t ≤ 64) (hf : 4 ≤ f ∧ f ≤ 64) (hk : 0 ≤ k ∧ k ≤ s) (hi : 0 ≤ i ∧ i < f) (M : MemOk w gm gw s t f l p ws)
    (bm : w.cell? ⟨bm0, 0, none⟩ = some (.pointer (some ⟨gm, 0, none⟩))) (bs : w.cell? ⟨bs0, 0, none⟩ = some (.int .i64 k)) :
    Calls Tryd.prog 65 #[.int .i64 i, .pointer (some ⟨bm0, 0, none⟩), .pointer (some ⟨bs0, 0, none⟩)] w fun e w' => e = .returned (.int .i64 (nB t f k + 3 + f + i)) ∧ Below w.heap.size w w' := by
  have C := hide (fun w2 => lval_any s t f l p k i w2 hs ht hf)
  rw [atpB_10 hk hi] at C
  obtain ⟨m0, m1, m2, m3, m4⟩ := mem5 M
  generalize nB t f k + 3 + f + i = r at *
  clear hi hk hs ht hf M
  have B := Below.refl w.heap.size w
  go_enter Tryd.func65, Tryd.ntmps65
  go_wp2_with fail
  refine wp_region_heldZ [] (fun w' => w'.cell? ⟨bm0, 0, none⟩ = some (.pointer (some ⟨gm, 0, none⟩)) ∧ w'.cell? ⟨bs0, 0, none⟩ = some (.int .i64 k) ∧ w'.cell? ⟨gm, 0, none⟩ = some (.int .i64 s) ∧ w'.cell? ⟨gm, 1, none⟩ = some (.int .i64 t) ∧ w'.cell? ⟨gm, 2, none⟩ = some (.int .i64 f) ∧ w'.cell? ⟨gm, 3, none⟩ = some (.int .i64 l) ∧ w'.cell? ⟨gm, 4, none⟩ = some (.int .i64 p)) (by kernel_rfl) (by exact ⟨bm, bs, m0, m1, m2, m3, m4⟩) (fun hHeld => ?_)
  refine' wpAnyZ_takeA (i := 0) (v := ?_) (opAt rfl) (by kernel_rfl) (by kernel_rfl) (by kernel_rfl) (by kernel_rfl) (fun _ _ _ h => h) (by assumption) (by rfl) (fun w hSw => ?_) ?_
  rotate_left
  · (try dsimp only at hSw); go_simp; (try with_reducible rfl)
  try simp only [Act.put, List.setIfInBounds_toArray, List.set_cons_zero, List.set_cons_succ]
  refine' wpAnyZ_takeA (i := 1) (v := ?_) (opAt rfl) (by kernel_rfl) (by kernel_rfl) (by kernel_rfl) (by kernel_rfl) (fun _ _ _ h => h) (by assumption) (by rfl) (fun w hSw => ?_) ?_
  rotate_left
  · (try dsimp only at hSw); go_simp; (try with_reducible rfl)
  try simp only [Act.put, List.setIfInBounds_toArray, List.set_cons_zero, List.set_cons_succ]
  refine' wpAnyZ_takeA (i := 2) (v := ?_) (opAt rfl) (by kernel_rfl) (by kernel_rfl) (by kernel_rfl) (by kernel_rfl) (fun _ _ _ h => h) (by assumption) (by rfl) (fun w hSw => ?_) ?_
  rotate_left
  · (try dsimp only at hSw); go_simp; (try with_reducible rfl)
  try simp only [Act.put, List.setIfInBounds_toArray, List.set_cons_zero, List.set_cons_succ]
  refine' wpAnyZ_takeA (i := 3) (v := ?_) (opAt rfl) (by kernel_rfl) (by kernel_rfl) (by kernel_rfl) (by kernel_rfl) (fun _ _ _ h => h) (by assumption) (by rfl) (fun w hSw => ?_) ?_
  rotate_left
  · (try dsimp only at hSw); go_simp; (try with_reducible rfl)
  try simp only [Act.put, List.setIfInBounds_toArray, List.set_cons_zero, List.set_cons_succ]
  refine' wpAnyZ_takeA (i := 4) (v := ?_) (opAt rfl) (by kernel_rfl) (by kernel_rfl) (by kernel_rfl) (by kernel_rfl) (fun _ _ _ h => h) (by assumption) (by rfl) (fun w hSw => ?_) ?_
  rotate_left
  · (try dsimp only at hSw); go_simp; (try with_reducible rfl)
  try simp only [Act.put, List.setIfInBounds_toArray, List.set_cons_zero, List.set_cons_succ]
  refine' wpAnyZ_takeA (i := 5) (v := ?_) (opAt rfl) (by kernel_rfl) (by kernel_rfl) (by kernel_rfl) (by kernel_rfl) (fun _ _ _ h => h) (by assumption) (by rfl) (fun w hSw => ?_) ?_
  rotate_left
  · (try dsimp only at hSw); go_simp; (try with_reducible rfl)
  try simp only [Act.put, List.setIfInBounds_toArray, List.set_cons_zero, List.set_cons_succ]
  refine wpAnyZ_ready (rs := [6]) (by kernel_rfl) (by simp) ?_
  refine AllReadyZ.cons (opAt rfl) (fun K hK => ?_) ?_
  · skip
    go_simp
    refine (C.out _).mono ?_
    rintro e w1 ⟨rfl, hb1⟩
    have hc := fun (q : Addr) v (h : w.drew.cell? q = some v) => cell_old hb1 h
    replace bm := hc _ _ bm
    replace bs := hc _ _ bs
    replace m0 := hc _ _ m0
    replace m1 := hc _ _ m1
    replace m2 := hc _ _ m2
    replace m3 := hc _ _ m3
    replace m4 := hc _ _ m4
    clear hc
    replace B := B.drew.trans (hb1.mono B.drew.size)
    clear hb1
    try go_wp2_with fail
    refine hK.out _ _ (by exact ⟨bm, bs, m0, m1, m2, m3, m4⟩) (fun hHeld => ?_)
    clear hK K
    try simp only [Act.put, List.setIfInBounds_toArray, List.set_cons_zero, List.set_cons_succ]
    refine' wpAnyZ_takeA (i := 7) (v := ?_) (opAt rfl) (by kernel_rfl) (by kernel_rfl) (by kernel_rfl) (by kernel_rfl) (fun _ _ _ h => h) (by assumption) (by rfl) (fun w hSw => ?_) ?_
    rotate_left
    · (try dsimp only at hSw); go_simp; (try with_reducible rfl)
    try simp only [Act.put, List.setIfInBounds_toArray, List.set_cons_zero, List.set_cons_succ]
    refine wpAnyZ_done (by kernel_rfl) ?_ _
    go_wp2_with fail
    go_ret
    exact ⟨rfl, B⟩
  exact AllReadyZ.nil
theorem rowK_any (gm gw bb : Nat) (s t f l p k : Int) (ws : List Int) (n : Nat) (kn : Int) (wx : World) (hs : 1 ≤ s ∧ s ≤ 1000) (ht : 1 ≤ t ∧ t ≤ 64) (hf : 4 ≤ f ∧ f ≤ 64) (hk : 0 ≤ k ∧ k ≤ s) (hn : (n : Int) ≤ f) (hkn : kn = (n : Int)) (M : MemOk wx gm gw s t f l p ws) (bm : Blk wx bb 27 #[.pointer (some ⟨gm, 0, none⟩)]) (bs : Blk wx (bb + 1) 3 #[.int .i64 k]) :
    Calls Tryd.prog 62 #[.pointer (some ⟨gm, 0, none⟩), .int .i64 kn, .func (.func 63) #[] #[.pointer (some ⟨bb, 0, none⟩), .pointer (some ⟨bb + 1, 0, none⟩)]] wx fun e w' => (∃ A c, e = .returned (.slice A n c) ∧ w'.ownsRow wx.heap.size 32 1 (.slice A n c) n (ints .u64 (rowL ws (fun i => nB t f k + 3 + i) n))) ∧ Below wx.heap.size wx w' := by
  subst hkn
  exact arow_any gm gw 63 s t f l p ws n #[.pointer (some ⟨bb, 0, none⟩), .pointer (some ⟨bb + 1, 0, none⟩)] (fun i => nB t f k + 3 + i) wx (by omega) M (enters_of (P := Tryd.prog) Tryd.func63 (by kernel_rfl) rfl)
    (fun i w2 hi hb => akey1_any gm gw bb (bb + 1) s t f l p k i ws w2 hs ht hf hk ⟨by omega, by omega⟩ (M.below hb) (cell_old hb (bm.cell 0)) (cell_old hb (bs.cell 0)))
theorem rowV_any (gm gw bb : Nat) (s t f l p k : Int) (ws : List Int) (n : Nat) (kn : Int) (wx : World) (hs : 1 ≤ s ∧ s ≤ 1000) (ht : 1 ≤ t ∧ t ≤ 64) (hf : 4 ≤ f ∧ f ≤ 64) (hk : 0 ≤ k ∧ k ≤ s) (hn : (n : Int) ≤ f) (hkn : kn = (n : Int)) (M : MemOk wx gm gw s t f l p ws) (bm : Blk wx bb 27 #[.pointer (some ⟨gm, 0, none⟩)]) (bs : Blk wx (bb + 1) 3 #[.int .i64 k]) :
    Calls Tryd.prog 62 #[.pointer (some ⟨gm, 0, none⟩), .int .i64 kn, .func (.func 65) #[] #[.pointer (some ⟨bb, 0, none⟩), .pointer (some ⟨bb + 1, 0, none⟩)]] wx fun e w' => (∃ A c, e = .returned (.slice A n c) ∧ w'.ownsRow wx.heap.size 32 1 (.slice A n c) n (ints .u64 (rowL ws (fun i => nB t f k + 3 + f + i) n))) ∧ Below wx.heap.size wx w' := by
  subst hkn
  exact arow_any gm gw 65 s t f l p ws n #[.pointer (some ⟨bb, 0, none⟩), .pointer (some ⟨bb + 1, 0, none⟩)] (fun i => nB t f k + 3 + f + i) wx (by omega) M (enters_of (P := Tryd.prog) Tryd.func65 (by kernel_rfl) rfl)
    (fun i w2 hi hb => aval1_any gm gw bb (bb + 1) s t f l p k i ws w2 hs ht hf hk ⟨by omega, by omega⟩ (M.below hb) (cell_old hb (bm.cell 0)) (cell_old hb (bs.cell 0)))
end Go.Proofs.YtegldbhabeoboaaDoor

