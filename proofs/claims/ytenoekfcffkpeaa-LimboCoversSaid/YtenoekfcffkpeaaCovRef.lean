/-
  gleaningref16.Cover and Covered; gleaningref03.Words.
-/
import Derived.Test.YtenoekfcffkpeaaCovered
import Derived.Deep.QuietTactic
import Derived.BigQuiet
namespace Go.Proofs.Ytenoekfcffkpeaa
open Go.RowKit

def CoverIn (n : Nat) (l : List Int) (x : Int) (w : World) (i : Value) (wr : World) : Prop :=
  ∃ k : Nat, i = .int .i64 k ∧ k ≤ n ∧ Below w.heap.size w wr ∧ coverB (l.take k) x = false

set_option maxHeartbeats 400000 in
theorem Cover_any (B : Option Addr) (m d : Nat) (hz : List Int) (x : Int) (w : World) (hm : m ≤ 1000) (hrz : Reads w w.heap.size 1 B m (ints .u64 hz)) :
    Calls Try.prog 23 #[.int .u64 x, .slice B m d] w fun e w' => e = .returned (.bool (coverB hz x)) ∧ Below w.heap.size w w' := by
  go_enter Try.func23, Try.ntmps23
  go_wp2_with fail
  go_loopw [5] (CoverIn m hz x w) (fun i _ => m - (intOf i).toNat)
  case atStart => exact ⟨0, rfl, by omega, Below.refl _ _, rfl⟩
  case round =>
    obtain ⟨k, rfl, hk, hb, hc⟩ := hrel
    have Hc := hide hc
    clear hc
    by_cases hlt : k < m
    · obtain ⟨a, rfl, hkl, z1⟩ := (hrz.below hb).word hlt
      have Htk := hide (take_snoc' hz k hkl)
      have Hmem := hide (List.getElem_mem hkl)
      generalize hz[k] = y at *
      by_cases h1 : y = x
      · subst h1
        by_cases h0 : y = 0
        · subst h0
          go_wp2_with fail
          go_roundw
          case rel => exact ⟨k + 1, by go_num, by omega, hb, by rw [Htk.out, coverB_snoc]; simp⟩
          case measure => simp [intOf]; omega
        · have h0' : (y != 0) = true := by simpa using h0
          have h0'' : (y == 0) = false := by simpa using h0
          have H0 := hide h0
          clear h0
          go_wp2_with fail
          go_ret
          exact ⟨by simp [coverB, Hmem.out, h0'], hb⟩
      · have h1' : (y == x) = false := beq_eq_false_iff_ne.2 h1
        go_wp2_with fail
        go_roundw
        case rel => exact ⟨k + 1, by go_num, by omega, hb, by rw [Htk.out, coverB_snoc, if_neg (Ne.symm h1)]; exact Hc.out⟩
        case measure => simp [intOf]; omega
    · have e : hz.take k = hz := List.take_of_length_le (by have := hrz.lenWord; omega)
      have Hc' := hide (e ▸ Hc.out)
      clear e
      go_wp2_with fail
      go_ret
      exact ⟨by rw [Hc'.out]; rfl, hb⟩

def CovRefIn (n : Nat) (l : List Int) (p : Int → Bool) (w : World) (v1 i : Value) (wr : World) : Prop :=
  ∃ (k : Nat) (A1 : Option Addr) (n1 c1 : Nat), i = .int .i64 k ∧ k ≤ n ∧ v1 = .slice A1 n1 c1 ∧ Below w.heap.size w wr ∧ n1 = ((l.take k).filter p).length ∧
    wr.ownsRow w.heap.size 26 1 (.slice A1 n1 c1) n1 (ints .u64 ((l.take k).filter p))

set_option maxHeartbeats 400000 in
theorem CovRef_any (A B : Option Addr) (n c m d : Nat) (l hz : List Int) (yes : Bool) (w : World) (hn : n ≤ 1000) (hm : m ≤ 1000) (hr : Reads w w.heap.size 1 A n (ints .u64 l)) (hrz : Reads w w.heap.size 1 B m (ints .u64 hz)) :
    Calls Try.prog 13 #[.slice A n c, .slice B m d, .bool yes] w fun e w' => (∃ A1 n1 c1, e = .returned (.slice A1 n1 c1) ∧ n1 = (l.filter (fun x => coverB hz x == yes)).length ∧
      Reads w' w'.heap.size 1 A1 n1 (ints .u64 (l.filter (fun x => coverB hz x == yes)))) ∧ Below w.heap.size w w' := by
  obtain ⟨i0, hi0, hz0, hs0, hb0⟩ := info_parts infoU64
  go_enter Try.func13, Try.ntmps13
  go_wp2_with fail
  go_loopw [7, 8] (CovRefIn n l (fun x => coverB hz x == yes) w) (fun _ i _ => n - (intOf i).toNat)
  case atStart => exact ⟨0, none, 0, 0, rfl, by omega, rfl, Below.refl _ _, rfl, World.ownsRow_nil _ _ _ _⟩
  case round =>
    obtain ⟨k, A1, n1, c1, rfl, hk, rfl, hb, hn1, hown1⟩ := hrel
    have Hn1 := hide hn1
    clear hn1
    by_cases hlt : k < n
    · obtain ⟨a, rfl, hkl, z1⟩ := (hr.below hb).word hlt
      have Htk := hide (take_snoc' l k hkl)
      have hm1 : n1 ≤ 4294967296 := by rw [Hn1.out]; have := filter_len_take (fun x => coverB hz x == yes) l k; omega
      generalize l[k] = x at *
      by_cases hp : (coverB hz x == yes) = true
      · have Hp := hide hp
        have Hf1 := hide ((congrArg (List.filter fun x => coverB hz x == yes) Htk.out).trans (filter_snoc_yes hp))
        clear hp
        go_wp2_with fail
        refine (Cover_any B m d hz x wr hm ((hrz.below hb).more hb.size)).mono ?_
        rintro e w2 ⟨rfl, hb2⟩
        have hz2 := hb2.size
        have hzw := hb.size
        have hbw := hb.trans (hb2.mono hzw)
        have z2 := keepCell hb2 z1
        have Hp' := Hp.out
        have ho1 := (own_below hown1 hb2).alloc (.cells #[.int .u64 x] 26)
        go_wp2_with (at_builtin; refine wpList_append_one rfl (.tmp 23) (.tmp 28) _ rfl w.heap.size 26 i0 _ 1 8 Try.underlying33 hi0 hz0 hs0 hb0 rfl (by omega) (by omega) (.slice A1 n1 c1) n1 _ rfl ho1 w2.heap.size #[.int .u64 x] rfl (Blk.new _ _ _) rfl rfl hm1 (by simp; omega) ?_; intro A3 c3 w3 hown3 hg3 hat3)
        have hb3 := below_appended (hbw.alloc (by omega) _) ho1 hg3 (Nat.le_refl _) (by simp; omega)
        go_roundw
        case measure => simp [intOf]; omega
        case rel => exact ⟨k + 1, A3, n1 + 1, c3, by go_num, by omega, rfl, hb3, by rw [Hf1.out, List.length_append, ← Hn1.out]; rfl, by rw [Hf1.out, ints_append]; exact hown3⟩
      · replace hp : (coverB hz x == yes) = false := by simpa using hp
        have Hp := hide hp
        have Hf1 := hide ((congrArg (List.filter fun x => coverB hz x == yes) Htk.out).trans (filter_snoc_no hp))
        clear hp
        go_wp2_with fail
        refine (Cover_any B m d hz x wr hm ((hrz.below hb).more hb.size)).mono ?_
        rintro e w2 ⟨rfl, hb2⟩
        have hz2 := hb2.size
        have hzw := hb.size
        have hbw := hb.trans (hb2.mono hzw)
        have z2 := keepCell hb2 z1
        have Hp' := Hp.out
        go_wp2_with fail
        go_roundw
        case measure => simp [intOf]; omega
        case rel => exact ⟨k + 1, A1, n1, c1, by go_num, by omega, rfl, hbw, by rw [Hf1.out]; exact Hn1.out, by rw [Hf1.out]; exact own_below hown1 hb2⟩
    · have e : l.take k = l := List.take_of_length_le (by have := hr.lenWord; omega)
      have Hn1' := Hn1.out
      rw [e] at hown1 Hn1'
      have Hn2 := hide Hn1'
      clear e Hn1'
      go_wp2_with fail
      go_ret
      exact ⟨⟨A1, n1, c1, rfl, Hn2.out, Reads.of_own hown1⟩, hb⟩

def WordsIn (n : Nat) (w : World) (i : Value) (wr : World) : Prop := ∃ (k : Nat), i = .int .i64 k ∧ k ≤ n ∧ Below w.heap.size w wr

set_option maxHeartbeats 400000 in
theorem Words_eq (A B : Option Addr) (n c d : Nat) (l : List Int) (w : World) (hn : n ≤ 4294967296) (hA : Reads w w.heap.size 1 A n (ints .u64 l)) (hB : Reads w w.heap.size 1 B n (ints .u64 l)) :
    Calls Try.prog 12 #[.slice A n c, .slice B n d] w fun r w' => r = .returned (.bool true) ∧ Below w.heap.size w w' := by
  go_enter Try.func12, Try.ntmps12
  go_wp2_with fail
  go_loopw [5] (WordsIn n w) (fun i _ => n - (intOf i).toNat)
  case atStart => exact ⟨0, rfl, by omega, Below.refl _ _⟩
  case round =>
    obtain ⟨k, rfl, hk, hb⟩ := hrel
    by_cases hlt : k < n
    · obtain ⟨a, rfl, _, z1⟩ := (hA.below hb).word hlt
      obtain ⟨b, rfl, _, z3⟩ := (hB.below hb).word hlt
      generalize l[k] = x at *
      go_wp2_with fail
      go_quiet (fail)
      go_wp2_with fail
      go_roundw
      case rel => exact ⟨k + 1, by go_num, by omega, below_drewN hb _⟩
      case measure => simp [intOf]; omega
    · go_wp2_with fail
      go_ret
      exact ⟨rfl, hb⟩
end Go.Proofs.Ytenoekfcffkpeaa
