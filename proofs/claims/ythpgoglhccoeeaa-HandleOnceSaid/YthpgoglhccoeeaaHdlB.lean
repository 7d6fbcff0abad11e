/-
  Package handle and its reference: Make, Slot, Gen, Right, Text.
-/
import Derived.Test.YthpgoglhccoeeaaHdl
import Derived.Test.YthpgoglhccoeeaaField
namespace Go.Proofs.Ythpgoglhccoeeaa
open Go.RowKit

def hmk (gen slot : Int) : Int := if slot < 1 ∨ 65535 < slot then 0 else gen % 16777216 * 65536 + slot
def hsl (h : Int) : Int := h % 65536
def hgn (h : Int) : Int := h / 65536 % 16777216
def hrt (h slots : Int) : Bool := decide (1 ≤ hsl h) && decide (hsl h ≤ slots) && decide (h < 1099511627776)
theorem hmk_bound (gen slot : Int) : W64 (hmk gen slot) := by
  unfold hmk
  split
  · exact ⟨by omega, by omega⟩
  · exact ⟨by omega, by omega⟩

set_option maxHeartbeats 400000 in
theorem hmake_any (gen slot : Int) (w : World) (hg : W64 gen) (hs : I64 slot) :
    Calls Try.prog 7 #[.int .u64 gen, .int .i64 slot] w fun e w' => e = .returned (.int .u64 (hmk gen slot)) ∧ w = w' := by
  obtain ⟨h1, h2⟩ := hs
  by_cases c1 : slot < 1
  · have E := hide (show hmk gen slot = 0 from if_pos (.inl c1))
    go_enter Try.func7, Try.ntmps7
    go_wp2_with fail
    go_ret
    exact ⟨by rw [E.out]; rfl, rfl⟩
  by_cases c2 : 65535 < slot
  · have E := hide (show hmk gen slot = 0 from if_pos (.inr c2))
    have c3 : 1 ≤ slot := by omega
    go_enter Try.func7, Try.ntmps7
    go_wp2_with fail
    go_ret
    exact ⟨by rw [E.out]; rfl, rfl⟩
  have e : fput slot 16 24 gen = hmk gen slot := by
    have h := fput_at slot gen 16 24 (by omega)
    simp at h
    rw [h]
    unfold hmk
    rw [if_neg (by omega)]
    omega
  have P := hide (fun w => put_any slot 16 24 gen w ⟨by omega, by omega⟩ ⟨by omega, by omega⟩ ⟨by omega, by omega⟩ hg)
  rw [e] at P
  generalize hmk gen slot = r at *
  clear e
  have c3 : 1 ≤ slot := by omega
  have c4 : slot ≤ 65535 := by omega
  clear c1 c2
  go_enter Try.func7, Try.ntmps7
  go_wp2_with fail
  refine (P.out _).mono ?_
  rintro e w' ⟨rfl, rfl⟩
  go_wp2_with fail
  go_ret
  exact ⟨rfl, rfl⟩

set_option maxHeartbeats 400000 in
theorem hslot_any (h : Int) (w : World) (hh : W64 h) : Calls Try.prog 9 #[.int .u64 h] w fun e w' => e = .returned (.int .i64 (hsl h)) ∧ w = w' := by
  have P := hide (fun w => get_any h 0 16 w hh ⟨by omega, by omega⟩ ⟨by omega, by omega⟩)
  have e : fget h 0 16 = hsl h := by
    have h1 := fget_at h 0 16 (by omega)
    simpa [hsl] using h1
  rw [e] at P
  have b : 0 ≤ hsl h ∧ hsl h < 65536 := by unfold hsl; omega
  generalize hsl h = r at *
  clear e
  obtain ⟨b1, b2⟩ := b
  go_enter Try.func9, Try.ntmps9
  go_wp2_with fail
  refine (P.out _).mono ?_
  rintro e w' ⟨rfl, rfl⟩
  go_wp2_with fail
  go_ret
  exact ⟨rfl, rfl⟩
set_option maxHeartbeats 400000 in
theorem hgen_any (h : Int) (w : World) (hh : W64 h) : Calls Try.prog 11 #[.int .u64 h] w fun e w' => e = .returned (.int .u64 (hgn h)) ∧ w = w' := by
  have P := hide (fun w => get_any h 16 24 w hh ⟨by omega, by omega⟩ ⟨by omega, by omega⟩)
  have e : fget h 16 24 = hgn h := by
    have h1 := fget_at h 16 24 (by omega)
    unfold hgn
    simpa using h1
  rw [e] at P
  generalize hgn h = r at *
  clear e
  go_enter Try.func11, Try.ntmps11
  go_wp2_with fail
  refine (P.out _).mono ?_
  rintro e w' ⟨rfl, rfl⟩
  go_wp2_with fail
  go_ret
  exact ⟨rfl, rfl⟩

set_option maxHeartbeats 400000 in
theorem hright_any (h slots : Int) (w : World) (hh : W64 h) : Calls Try.prog 13 #[.int .u64 h, .int .i64 slots] w fun e w' => e = .returned (.bool (hrt h slots)) ∧ w = w' := by
  have Sl := hide (fun w => hslot_any h w hh)
  have E := hide (show hrt h slots = (decide (1 ≤ hsl h) && decide (hsl h ≤ slots) && decide (h < 1099511627776)) from rfl)
  obtain ⟨h1, h2⟩ := hh
  generalize hrt h slots = R at *
  generalize hsl h = s at *
  by_cases c1 : 1 ≤ s
  · by_cases c2 : s ≤ slots
    · go_enter Try.func13, Try.ntmps13
      go_wp2_with fail
      refine (Sl.out _).mono ?_
      rintro e w' ⟨rfl, rfl⟩
      go_wp2_with fail
      refine (Sl.out _).mono ?_
      rintro e w' ⟨rfl, rfl⟩
      go_wp2_with fail
      go_ret
      have k : (h / 1099511627776 == 0) = decide (h < 1099511627776) := by
        rw [Bool.eq_iff_iff]
        simp only [beq_iff_eq, decide_eq_true_eq]
        omega
      exact ⟨by rw [E.out, ← k]; simp [c1, c2], rfl⟩
    · go_enter Try.func13, Try.ntmps13
      go_wp2_with fail
      refine (Sl.out _).mono ?_
      rintro e w' ⟨rfl, rfl⟩
      go_wp2_with fail
      refine (Sl.out _).mono ?_
      rintro e w' ⟨rfl, rfl⟩
      go_wp2_with fail
      go_ret
      exact ⟨by rw [E.out, show decide (s ≤ slots) = false by simpa using c2]; simp, rfl⟩
  · go_enter Try.func13, Try.ntmps13
    go_wp2_with fail
    refine (Sl.out _).mono ?_
    rintro e w' ⟨rfl, rfl⟩
    go_wp2_with fail
    go_ret
    exact ⟨by rw [E.out, show decide (1 ≤ s) = false by simpa using c1]; simp, rfl⟩

/-! The reference. -/
set_option maxHeartbeats 400000 in
theorem rhm_any (gen slot : Int) (w : World) (hg : W64 gen) (hs : I64 slot) :
    Calls Try.prog 8 #[.int .u64 gen, .int .i64 slot] w fun e w' => e = .returned (.int .u64 (hmk gen slot)) ∧ w = w' := by
  obtain ⟨h1, h2⟩ := hs
  obtain ⟨g1, g2⟩ := hg
  by_cases c1 : slot < 1
  · have E := hide (show hmk gen slot = 0 from if_pos (.inl c1))
    go_enter Try.func8, Try.ntmps8
    go_wp2_with fail
    go_ret
    exact ⟨by rw [E.out]; rfl, rfl⟩
  by_cases c2 : 65535 < slot
  · have E := hide (show hmk gen slot = 0 from if_pos (.inr c2))
    have c3 : 1 ≤ slot := by omega
    go_enter Try.func8, Try.ntmps8
    go_wp2_with fail
    go_ret
    exact ⟨by rw [E.out]; rfl, rfl⟩
  have E := hide (show hmk gen slot = gen % 16777216 * 65536 + slot from if_neg (by omega))
  have t1 : gen.tmod 16777216 = gen % 16777216 := Int.tmod_eq_emod_of_nonneg g1
  have t2 : 0 ≤ gen % 16777216 ∧ gen % 16777216 < 16777216 := by omega
  generalize gen % 16777216 = p at *
  have c3 : 1 ≤ slot := by omega
  have c4 : slot ≤ 65535 := by omega
  clear c1 c2
  go_enter Try.func8, Try.ntmps8
  go_wp2_with fail
  go_ret
  exact ⟨by rw [E.out]; rfl, rfl⟩
set_option maxHeartbeats 400000 in
theorem rhs_any (h : Int) (w : World) (hh : W64 h) : Calls Try.prog 10 #[.int .u64 h] w fun e w' => e = .returned (.int .i64 (hsl h)) ∧ w = w' := by
  obtain ⟨h1, h2⟩ := hh
  have t1 : h.tmod 65536 = hsl h := Int.tmod_eq_emod_of_nonneg h1
  have b : 0 ≤ hsl h ∧ hsl h < 65536 := by unfold hsl; omega
  obtain ⟨b1, b2⟩ := b
  generalize hsl h = r at *
  go_enter Try.func10, Try.ntmps10
  go_wp2_with fail
  go_ret
  exact ⟨rfl, rfl⟩
set_option maxHeartbeats 400000 in
theorem rhg_any (h : Int) (w : World) (hh : W64 h) : Calls Try.prog 12 #[.int .u64 h] w fun e w' => e = .returned (.int .u64 (hgn h)) ∧ w = w' := by
  obtain ⟨h1, h2⟩ := hh
  have t1 : h.tdiv 65536 = h / 65536 := Int.tdiv_eq_ediv_of_nonneg h1
  have t2 : (h / 65536).tmod 16777216 = hgn h := Int.tmod_eq_emod_of_nonneg (by omega)
  have b3 : 0 ≤ h / 65536 ∧ h / 65536 ≤ 18446744073709551615 := by omega
  generalize hgn h = r at *
  generalize h / 65536 = y at *
  go_enter Try.func12, Try.ntmps12
  go_wp2_with fail
  go_ret
  exact ⟨rfl, rfl⟩
set_option maxHeartbeats 400000 in
theorem rhr_any (h slots : Int) (w : World) (hh : W64 h) : Calls Try.prog 14 #[.int .u64 h, .int .i64 slots] w fun e w' => e = .returned (.bool (hrt h slots)) ∧ w = w' := by
  have Sl := hide (fun w => rhs_any h w hh)
  have E := hide (show hrt h slots = (decide (1 ≤ hsl h) && decide (hsl h ≤ slots) && decide (h < 1099511627776)) from rfl)
  obtain ⟨h1, h2⟩ := hh
  generalize hrt h slots = R at *
  generalize hsl h = s at *
  by_cases c1 : 1 ≤ s
  · by_cases c2 : s ≤ slots
    · go_enter Try.func14, Try.ntmps14
      go_wp2_with fail
      refine (Sl.out _).mono ?_
      rintro e w' ⟨rfl, rfl⟩
      go_wp2_with fail
      refine (Sl.out _).mono ?_
      rintro e w' ⟨rfl, rfl⟩
      go_wp2_with fail
      go_ret
      exact ⟨by rw [E.out]; simp [c1, c2], rfl⟩
    · go_enter Try.func14, Try.ntmps14
      go_wp2_with fail
      refine (Sl.out _).mono ?_
      rintro e w' ⟨rfl, rfl⟩
      go_wp2_with fail
      refine (Sl.out _).mono ?_
      rintro e w' ⟨rfl, rfl⟩
      go_wp2_with fail
      go_ret
      exact ⟨by rw [E.out, show decide (s ≤ slots) = false by simpa using c2]; simp, rfl⟩
  · go_enter Try.func14, Try.ntmps14
    go_wp2_with fail
    refine (Sl.out _).mono ?_
    rintro e w' ⟨rfl, rfl⟩
    go_wp2_with fail
    go_ret
    exact ⟨by rw [E.out, show decide (1 ≤ s) = false by simpa using c1]; simp, rfl⟩

/-! Texts. -/
def htx (h : Int) : ByteArray := (strOfNums (form 10 (hsl h).toNat) ++ ⟨#[58]⟩) ++ strOfNums (form 10 (hgn h).toNat)
set_option maxHeartbeats 400000 in
theorem htext_any (h : Int) (w : World) (hh : W64 h) : Calls Try.prog 18 #[.int .u64 h] w fun e w' => e = .returned (.string (htx h)) ∧ Below w.heap.size w w' := by
  have Sl := hide (fun w => hslot_any h w hh)
  have Gn := hide (fun w => hgen_any h w hh)
  have b : 0 ≤ hsl h ∧ hsl h < 65536 := by unfold hsl; omega
  have b' : 0 ≤ hgn h ∧ hgn h < 16777216 := by unfold hgn; omega
  obtain ⟨m, hm⟩ := Int.eq_ofNat_of_zero_le b.1
  obtain ⟨n, hn⟩ := Int.eq_ofNat_of_zero_le b'.1
  have In := hide (fun w => int_any (hsl h) w ⟨by omega, by omega⟩)
  have ei : intL (hsl h) = form 10 m := by
    unfold intL
    rw [hm, if_neg (by omega), Int.toNat_natCast]
  rw [ei] at In
  have Tx := hide (fun w => text_any n w (by omega))
  rw [← hn] at Tx
  have E := hide (show htx h = (strOfNums (form 10 m) ++ ⟨#[58]⟩) ++ strOfNums (form 10 n) by
    unfold htx
    rw [hm, hn, Int.toNat_natCast, Int.toNat_natCast])
  have z1 := form_size 10 m
  have z2 := form_size 10 n
  clear ei hm hn b b'
  generalize htx h = R at *
  generalize strOfNums (form 10 m) = s1 at *
  generalize strOfNums (form 10 n) = s2 at *
  have z3 : (s1 ++ (⟨#[58]⟩ : ByteArray)).size ≤ 65 := by
    rw [ByteArray.size_append]
    show s1.size + 1 ≤ 65
    omega
  generalize hsl h = sv at *
  generalize hgn h = gv at *
  go_enter Try.func18, Try.ntmps18
  go_wp2_with fail
  refine (Sl.out _).mono ?_
  rintro e w' ⟨rfl, rfl⟩
  go_wp2_with fail
  refine (In.out _).mono ?_
  rintro e w1 ⟨rfl, hb1⟩
  go_wp2_with fail
  refine (Gn.out _).mono ?_
  rintro e w' ⟨rfl, rfl⟩
  go_wp2_with fail
  refine (Tx.out _).mono ?_
  rintro e w2 ⟨rfl, hb2⟩
  go_wp2_with fail
  go_ret
  exact ⟨by rw [E.out]; rfl, hb1.trans (hb2.mono hb1.size)⟩
end Go.Proofs.Ythpgoglhccoeeaa
