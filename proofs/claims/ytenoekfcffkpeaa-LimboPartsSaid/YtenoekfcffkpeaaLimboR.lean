/-
  The reference's Ripe, Part, Without.
-/
import Derived.Test.YtenoekfcffkpeaaLimboP
namespace Go.Proofs.Ytenoekfcffkpeaa
open Go.RowKit

set_option maxHeartbeats 400000 in
theorem RRipe_any (h e ep : Int) (w : World) (he : W64 e) (hp : W64 ep) :
    Calls Try.prog 16 #[.agg #[.int .u64 h, .int .u64 e], .int .u64 ep] w fun r w' => r = .returned (.bool (ripeB e ep)) ∧ Below w.heap.size w w' := by
  obtain ⟨h0, h1⟩ := he
  obtain ⟨h2, h3⟩ := hp
  by_cases hc : e ≤ ep
  · go_enter Try.func16, Try.ntmps16
    go_wp2
    go_ret
    exact ⟨by unfold ripeB; congr 2; simp; omega, (Below.refl _ _).alloc (Nat.le_refl _) _⟩
  · go_enter Try.func16, Try.ntmps16
    go_wp2
    go_ret
    exact ⟨by unfold ripeB; congr 2; simp; omega, (Below.refl _ _).alloc (Nat.le_refl _) _⟩

def PRefIn (n : Nat) (l : List (Int × Int)) (p : Int × Int → Bool) (w : World) (v1 i : Value) (wr : World) : Prop :=
  ∃ (k : Nat) (A1 : Option Addr) (n1 c1 : Nat), i = .int .i64 k ∧ k ≤ n ∧ v1 = .slice A1 n1 c1 ∧ Below w.heap.size w wr ∧ n1 = ((l.take k).filter p).length ∧
    wr.ownsRow w.heap.size 28 2 (.slice A1 n1 c1) n1 (rec2 ((l.take k).filter p))


set_option maxHeartbeats 400000 in
theorem RPart_any (A : Option Addr) (n c : Nat) (l : List (Int × Int)) (ep : Int) (yes : Bool) (w : World) (hn : n ≤ 1000) (hr : Reads w w.heap.size 2 A n (rec2 l)) (hw : ∀ r ∈ l, W64 r.1 ∧ W64 r.2) (hp : W64 ep) :
    Calls Try.prog 17 #[.slice A n c, .int .u64 ep, .bool yes] w fun e w' => (∃ A1 n1 c1, e = .returned (.slice A1 n1 c1) ∧ n1 = (l.filter (fun r => ripeB r.2 ep == yes)).length ∧
      Reads w' w'.heap.size 2 A1 n1 (rec2 (l.filter (fun r => ripeB r.2 ep == yes)))) ∧ Below w.heap.size w w' := by
  obtain ⟨i0, hi0, hz0, hs0, hb0⟩ := info_parts infoRec'
  have hep := hp
  clear hp
  go_enter Try.func17, Try.ntmps17
  go_wp2_with fail
  go_loopw [7, 8] (PRefIn n l (fun r => ripeB r.2 ep == yes) w) (fun _ i _ => n - (intOf i).toNat)
  case atStart => exact ⟨0, none, 0, 0, rfl, by omega, rfl, Below.refl _ _, rfl, World.ownsRow_nil _ _ _ _⟩
  case round =>
    obtain ⟨k, A1, n1, c1, rfl, hk, rfl, hb, hn1, hown1⟩ := hrel
    have Hn1 := hide hn1
    clear hn1
    by_cases hlt : k < n
    · obtain ⟨a, rfl, hkl, z1, z2⟩ := (hr.below hb).pair hlt
      have Htk := hide (take_snoc' l k hkl)
      have hm1 : n1 ≤ 4294967296 := by rw [Hn1.out]; have := filter_len_take (fun r => ripeB r.2 ep == yes) l k; omega
      have hx := hw l[k] (List.getElem_mem hkl)
      generalize l[k] = x at *
      obtain ⟨h0, e0⟩ := x
      simp only at z1 z2 hx
      by_cases hp : (ripeB e0 ep == yes) = true
      · skip
        have Hp := hide hp
        have Hf1 := hide ((congrArg (List.filter fun r => ripeB r.2 ep == yes) Htk.out).trans (filter_snoc_yes hp))
        clear hp
        go_wp2_with fail
        refine (RRipe_any h0 e0 ep wr hx.2 hep).mono ?_
        rintro e w2 ⟨rfl, hb2⟩
        have hz2 := hb2.size
        have hzw := hb.size
        have hbw := hb.trans (hb2.mono hzw)
        have z3 := keepCell hb2 z1
        have z4 := keepCell hb2 z2
        have Hp' := Hp.out
        have ho1 := (own_below hown1 hb2).alloc (.cells #[.int .u64 h0, .int .u64 e0] 28)
        go_wp2_with (at_builtin; refine wpList_append_one rfl (.tmp 23) (.tmp 28) _ rfl w.heap.size 28 i0 _ 2 16 Try.underlying22 hi0 hz0 hs0 hb0 rfl (by omega) (by omega) (.slice A1 n1 c1) n1 _ rfl ho1 w2.heap.size #[.int .u64 h0, .int .u64 e0] rfl (Blk.new _ _ _) rfl rfl hm1 (by simp; omega) ?_; intro A3 c3 w3 hown3 hg3 hat3)
        have hb3 := below_appended (hbw.alloc (by omega) _) ho1 hg3 (Nat.le_refl _) (by simp; omega)
        go_roundw
        case measure => simp [intOf]; omega
        case rel => exact ⟨k + 1, A3, n1 + 1, c3, by go_num, by omega, rfl, hb3, by rw [Hf1.out, List.length_append, ← Hn1.out]; rfl, by rw [Hf1.out, rec2_append]; exact hown3⟩
      · replace hp : (ripeB e0 ep == yes) = false := by simpa using hp
        have Hp := hide hp
        have Hf1 := hide ((congrArg (List.filter fun r => ripeB r.2 ep == yes) Htk.out).trans (filter_snoc_no hp))
        clear hp
        go_wp2_with fail
        refine (RRipe_any h0 e0 ep wr hx.2 hep).mono ?_
        rintro e w2 ⟨rfl, hb2⟩
        have hz2 := hb2.size
        have hzw := hb.size
        have hbw := hb.trans (hb2.mono hzw)
        have z3 := keepCell hb2 z1
        have z4 := keepCell hb2 z2
        have Hp' := Hp.out
        go_wp2_with fail
        go_roundw
        case measure => simp [intOf]; omega
        case rel => exact ⟨k + 1, A1, n1, c1, by go_num, by omega, rfl, hbw, by rw [Hf1.out]; exact Hn1.out, by rw [Hf1.out]; exact own_below hown1 hb2⟩
    · have e : l.take k = l := List.take_of_length_le (by have := hr.lenPair; omega)
      have Hn1' := Hn1.out
      rw [e] at hown1 Hn1'
      have Hn2 := hide Hn1'
      clear e Hn1'
      go_wp2_with fail
      go_ret
      exact ⟨⟨A1, n1, c1, rfl, Hn2.out, Reads.of_own hown1⟩, hb⟩

set_option maxHeartbeats 400000 in
theorem RWithout_any (A : Option Addr) (n c : Nat) (l : List (Int × Int)) (sl : Int) (w : World) (hn : n ≤ 1000) (hr : Reads w w.heap.size 2 A n (rec2 l)) (hw : ∀ r ∈ l, W64 r.1 ∧ W64 r.2) :
    Calls Try.prog 19 #[.slice A n c, .int .i64 sl] w fun e w' => (∃ A1 n1 c1, e = .returned (.slice A1 n1 c1) ∧ n1 = (l.filter (fun r => !(r.1 % 65536 == sl))).length ∧
      Reads w' w'.heap.size 2 A1 n1 (rec2 (l.filter fun r => !(r.1 % 65536 == sl)))) ∧ Below w.heap.size w w' := by
  obtain ⟨i0, hi0, hz0, hs0, hb0⟩ := info_parts infoRec'
  go_enter Try.func19, Try.ntmps19
  go_wp2_with fail
  go_loopw [5, 6] (PRefIn n l (fun r => !(r.1 % 65536 == sl)) w) (fun _ i _ => n - (intOf i).toNat)
  case atStart => exact ⟨0, none, 0, 0, rfl, by omega, rfl, Below.refl _ _, rfl, World.ownsRow_nil _ _ _ _⟩
  case round =>
    obtain ⟨k, A1, n1, c1, rfl, hk, rfl, hb, hn1, hown1⟩ := hrel
    have Hn1 := hide hn1
    clear hn1
    by_cases hlt : k < n
    · obtain ⟨a, rfl, hkl, z1, z2⟩ := (hr.below hb).pair hlt
      have Htk := hide (take_snoc' l k hkl)
      have hm1 : n1 ≤ 4294967296 := by rw [Hn1.out]; have := filter_len_take (fun r => !(r.1 % 65536 == sl)) l k; omega
      have hx := hw l[k] (List.getElem_mem hkl)
      generalize l[k] = x at *
      obtain ⟨h0, e0⟩ := x
      simp only at z1 z2 hx
      by_cases hp : (!(h0 % 65536 == sl)) = true
      · have hq : (h0 % 65536 != sl) = true := hp
        have Hp := hide hp
        have Hf1 := hide ((congrArg (List.filter fun r => !(r.1 % 65536 == sl)) Htk.out).trans (filter_snoc_yes hp))
        clear hp
        go_wp2_with fail
        refine (RSlot_any h0 wr hx.1).mono ?_
        rintro e w2 ⟨rfl, rfl⟩
        have hb2 := Below.refl wr.heap.size wr
        have hbw := hb
        have hzw := hb.size
        obtain ⟨w2, rfl⟩ : ∃ w2 : World, w2 = wr := ⟨_, rfl⟩
        have ho1 := (own_below hown1 hb2).alloc (.cells #[.int .u64 h0, .int .u64 e0] 28)
        go_wp2_with (at_builtin; refine wpList_append_one rfl (.tmp 21) (.tmp 26) _ rfl w.heap.size 28 i0 _ 2 16 Try.underlying22 hi0 hz0 hs0 hb0 rfl (by omega) (by omega) (.slice A1 n1 c1) n1 _ rfl ho1 w2.heap.size #[.int .u64 h0, .int .u64 e0] rfl (Blk.new _ _ _) rfl rfl hm1 (by simp; omega) ?_; intro A3 c3 w3 hown3 hg3 hat3)
        have hb3 := below_appended (hbw.alloc (by omega) _) ho1 hg3 (Nat.le_refl _) (by simp; omega)
        go_roundw
        case measure => simp [intOf]; omega
        case rel => exact ⟨k + 1, A3, n1 + 1, c3, by go_num, by omega, rfl, hb3, by rw [Hf1.out, List.length_append, ← Hn1.out]; rfl, by rw [Hf1.out, rec2_append]; exact hown3⟩
      · replace hp : (!(h0 % 65536 == sl)) = false := by simpa using hp
        have hq : (h0 % 65536 != sl) = false := hp
        have Hp := hide hp
        have Hf1 := hide ((congrArg (List.filter fun r => !(r.1 % 65536 == sl)) Htk.out).trans (filter_snoc_no hp))
        clear hp
        go_wp2_with fail
        refine (RSlot_any h0 wr hx.1).mono ?_
        rintro e w2 ⟨rfl, rfl⟩
        have hb2 := Below.refl wr.heap.size wr
        have hbw := hb
        go_wp2_with fail
        go_roundw
        case measure => simp [intOf]; omega
        case rel => exact ⟨k + 1, A1, n1, c1, by go_num, by omega, rfl, hbw, by rw [Hf1.out]; exact Hn1.out, by rw [Hf1.out]; exact own_below hown1 hb2⟩
    · have e : l.take k = l := List.take_of_length_le (by have := hr.lenPair; omega)
      have Hn1' := Hn1.out
      rw [e] at hown1 Hn1'
      have Hn2 := hide Hn1'
      clear e Hn1'
      go_wp2_with fail
      go_ret
      exact ⟨⟨A1, n1, c1, rfl, Hn2.out, Reads.of_own hown1⟩, hb⟩
end Go.Proofs.Ytenoekfcffkpeaa
