/-
  limbo.Part, limbo.Without, limbo.Handles.
-/
import Derived.Test.YtenoekfcffkpeaaLimboA
import Derived.Test.YtenoekfcffkpeaaPartedRec
import Derived.Test.YtenoekfcffkpeaaParted
import Derived.Test.YtenoekfcffkpeaaSlot
namespace Go.Proofs.Ytenoekfcffkpeaa
open Go.RowKit

set_option maxHeartbeats 400000 in
theorem part1_any (h e ep : Int) (w : World) (g : Nat) (he : W64 e) (hp : W64 ep) (hc : w.cell? ⟨g, 0, none⟩ = some (.int .u64 ep)) :
    Calls Try.prog 25 #[.agg #[.int .u64 h, .int .u64 e], .pointer (some ⟨g, 0, none⟩)] w fun r w' => r = .returned (.bool (ripeB e ep)) ∧ Below w.heap.size w w' := by
  have hg := World.block_lt_of_cell? w ⟨g, 0, none⟩ hc
  simp only at hg
  go_enter Try.func25, Try.ntmps25
  go_wp2_with fail
  refine (Ripe_any _ _ _ _ he hp).mono ?_
  rintro e w' ⟨rfl, hb⟩
  go_wp2_with fail
  go_ret
  exact ⟨rfl, ((Below.refl _ _).alloc (Nat.le_refl _) _).trans (hb.mono (by simp))⟩

set_option maxHeartbeats 400000 in
theorem Part_any (A : Option Addr) (n c : Nat) (l : List (Int × Int)) (ep : Int) (w : World) (hn : n ≤ 1000) (hr : Reads w w.heap.size 2 A n (rec2 l)) (hw : ∀ r ∈ l, W64 r.1 ∧ W64 r.2) (hp : W64 ep) :
    Calls Try.prog 14 #[.slice A n c, .int .u64 ep] w fun e w' => (∃ A1 n1 c1 A2 n2 c2, e = .returned (.tuple #[.slice A1 n1 c1, .slice A2 n2 c2]) ∧ n1 = (l.filter (fun r => ripeB r.2 ep)).length ∧ n2 = (l.filter (fun r => !ripeB r.2 ep)).length ∧
      Reads w' w'.heap.size 2 A1 n1 (rec2 (l.filter fun r => ripeB r.2 ep)) ∧ Reads w' w'.heap.size 2 A2 n2 (rec2 (l.filter fun r => !ripeB r.2 ep))) ∧ Below w.heap.size w w' := by
  go_enter Try.func14, Try.ntmps14
  go_wp2_with fail
  refine (parted_rec A n c l 25 #[.pointer (some ⟨w.heap.size, 0, none⟩)] (fun r => ripeB r.2 ep) _ hr.lenPair hn ((hr.alloc (Nat.le_refl _) _).more (by simp)) (fun args w' => run_enter Try.func25 (by decide) (by simp [Try.f25]) args w') ?_).mono ?_
  · intro x hx w' hb
    refine part1_any x.1 x.2 ep w' w.heap.size (hw x hx).2 hp ?_
    obtain ⟨h1, _⟩ := bcell hb
    rw [h1 _ _ (by simp)]
    simp [go_sem]
  · rintro e w2 ⟨⟨A1, n1, c1, A2, n2, c2, rfl, e1, e2, r1, r2⟩, hb2⟩
    have E1 := hide e1
    have E2 := hide e2
    clear e1 e2
    go_wp2_with fail
    go_ret2
    exact ⟨⟨A1, n1, c1, A2, n2, c2, rfl, E1.out, E2.out, r1, r2⟩, ((Below.refl _ _).alloc (Nat.le_refl _) _).trans (hb2.mono (by simp))⟩

set_option maxHeartbeats 400000 in
theorem without1_any (h e sl : Int) (w : World) (g : Nat) (hh : W64 h) (hc : w.cell? ⟨g, 0, none⟩ = some (.int .i64 sl)) :
    Calls Try.prog 26 #[.agg #[.int .u64 h, .int .u64 e], .pointer (some ⟨g, 0, none⟩)] w fun r w' => r = .returned (.bool (h % 65536 == sl)) ∧ Below w.heap.size w w' := by
  have hg := World.block_lt_of_cell? w ⟨g, 0, none⟩ hc
  simp only at hg
  go_enter Try.func26, Try.ntmps26
  go_wp2_with fail
  go_quiet ((go_at_call 27; exact quiet_left (Slot_any h _ hh)))
  go_wp2_with fail
  go_ret
  exact ⟨rfl, below_drewN ((Below.refl _ _).alloc (Nat.le_refl _) _) _⟩

set_option maxHeartbeats 400000 in
theorem Without_any (A : Option Addr) (n c : Nat) (l : List (Int × Int)) (sl : Int) (w : World) (hn : n ≤ 1000) (hr : Reads w w.heap.size 2 A n (rec2 l)) (hw : ∀ r ∈ l, W64 r.1 ∧ W64 r.2) :
    Calls Try.prog 18 #[.slice A n c, .int .i64 sl] w fun e w' => (∃ A1 n1 c1, e = .returned (.slice A1 n1 c1) ∧ n1 = (l.filter (fun r => !(r.1 % 65536 == sl))).length ∧
      Reads w' w'.heap.size 2 A1 n1 (rec2 (l.filter fun r => !(r.1 % 65536 == sl)))) ∧ Below w.heap.size w w' := by
  go_enter Try.func18, Try.ntmps18
  go_wp2_with fail
  refine (parted_rec A n c l 26 #[.pointer (some ⟨w.heap.size, 0, none⟩)] (fun r => r.1 % 65536 == sl) _ hr.lenPair hn ((hr.alloc (Nat.le_refl _) _).more (by simp)) (fun args w' => run_enter Try.func26 (by decide) (by simp [Try.f26]) args w') ?_).mono ?_
  · intro x hx w' hb
    refine without1_any x.1 x.2 sl w' w.heap.size (hw x hx).1 ?_
    obtain ⟨h1, _⟩ := bcell hb
    rw [h1 _ _ (by simp)]
    simp [go_sem]
  · rintro e w2 ⟨⟨A1, n1, c1, A2, n2, c2, rfl, e1, e2, r1, r2⟩, hb2⟩
    have E2 := hide e2
    clear e1 e2
    go_wp2_with fail
    go_ret
    exact ⟨⟨A2, n2, c2, rfl, E2.out, r2⟩, ((Below.refl _ _).alloc (Nat.le_refl _) _).trans (hb2.mono (by simp))⟩

def HandIn (n : Nat) (l : List (Int × Int)) (w : World) (v1 i : Value) (wr : World) : Prop :=
  ∃ (k : Nat) (A1 : Option Addr) (c1 : Nat), i = .int .i64 k ∧ k ≤ n ∧ v1 = .slice A1 k c1 ∧ Below w.heap.size w wr ∧
    wr.ownsRow w.heap.size 26 1 (.slice A1 k c1) k (ints .u64 ((l.take k).map (·.1)))

set_option maxHeartbeats 400000 in
theorem Handles_any (A : Option Addr) (n c : Nat) (l : List (Int × Int)) (w : World) (hn : n ≤ 1000) (hr : Reads w w.heap.size 2 A n (rec2 l)) :
    Calls Try.prog 15 #[.slice A n c] w fun e w' => (∃ A1 c1, e = .returned (.slice A1 n c1) ∧ Reads w' w'.heap.size 1 A1 n (ints .u64 (l.map (·.1)))) ∧ Below w.heap.size w w' := by
  obtain ⟨i0, hi0, hz0, hs0, hb0⟩ := info_parts infoU64
  go_enter Try.func15, Try.ntmps15
  go_wp2_with fail
  go_loopw [3, 8] (HandIn n l w) (fun _ i _ => n - (intOf i).toNat)
  case atStart => exact ⟨0, none, 0, rfl, by omega, rfl, Below.refl _ _, World.ownsRow_nil _ _ _ _⟩
  case round =>
    obtain ⟨k, A1, c1, rfl, hk, rfl, hb, hown1⟩ := hrel
    by_cases hlt : k < n
    · obtain ⟨a, rfl, hkl, z1, z2⟩ := (hr.below hb).pair hlt
      have Htk := hide (take_snoc' l k hkl)
      generalize l[k] = x at *
      obtain ⟨h0, e0⟩ := x
      simp only at z1 z2
      have hzw := hb.size
      have ho1 := (hown1.alloc (.cells #[.int .u64 h0, .int .u64 e0] 28)).alloc (.cells #[.int .u64 h0] 26)
      have hbk := Blk.new (wr.alloc (.cells #[.int .u64 h0, .int .u64 e0] 28)) 26 #[.int .u64 h0]
      simp only [World.size_alloc] at hbk
      go_wp2_with (at_builtin; refine wpList_append_one rfl (.tmp 12) (.tmp 15) _ rfl w.heap.size 26 i0 _ 1 8 Try.underlying33 hi0 hz0 hs0 hb0 rfl (by omega) (by omega) (.slice A1 k c1) k _ rfl ho1 (wr.heap.size + 1) #[.int .u64 h0] rfl hbk rfl rfl (by omega) (by simp; omega) ?_; intro A3 c3 w3 hown3 hg3 hat3)
      have hb3 := below_appended ((hb.alloc (by omega) _).alloc (by simp; omega) _) ho1 hg3 (Nat.le_refl _) (by simp; omega)
      go_roundw
      case measure => simp [intOf]; omega
      case rel => exact ⟨k + 1, A3, c3, by go_num, by omega, rfl, hb3, by rw [Htk.out, List.map_append, ints_append]; exact hown3⟩
    · obtain rfl : k = n := by omega
      have e : l.take k = l := List.take_of_length_le (by have := hr.lenPair; omega)
      rw [e] at hown1
      clear e
      go_wp2_with fail
      go_ret
      exact ⟨⟨A1, c1, rfl, Reads.of_own hown1⟩, hb⟩
end Go.Proofs.Ytenoekfcffkpeaa
