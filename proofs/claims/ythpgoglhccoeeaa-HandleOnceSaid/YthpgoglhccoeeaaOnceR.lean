/-
  gleaningref03.Once and gleaningref03.Words; the Go function HandleOnce.
-/
import Derived.Test.YthpgoglhccoeeaaOnceP
import Derived.Deep.QuietTactic
import Derived.BigQuiet
namespace Go.Proofs.Ythpgoglhccoeeaa
open Go.RowKit Go.Maps

theorem sameK_comm (x y : Int) : sameK x y = sameK y x := by unfold sameK; exact Bool.beq_comm
def RefIn (n : Nat) (l : List Int) (w : World) (v1 i : Value) (wr : World) : Prop :=
  ∃ (k : Nat) (A1 : Option Addr) (n1 c1 : Nat), i = .int .i64 k ∧ k ≤ n ∧ v1 = .slice A1 n1 c1 ∧ Below w.heap.size w wr ∧ n1 = (onceL (l.take k)).length ∧
    wr.ownsRow w.heap.size 22 1 (.slice A1 n1 c1) n1 (ints .u64 (onceL (l.take k)))
def InnIn (k : Nat) (x : Int) (l : List Int) (w : World) (fi j : Value) (wr : World) : Prop :=
  ∃ (p q : Nat), j = .int .i64 p ∧ p ≤ k ∧ fi = .bool (!((l.take p).any fun y => sameK x y)) ∧ wr = w.drewN q
theorem modP (x : Int) (h : 0 ≤ x) : x.tmod 1099511627776 = x % 1099511627776 := Int.tmod_eq_emod_of_nonneg h
set_option maxRecDepth 100000 in
set_option maxHeartbeats 4000000 in
theorem ronce_any (A : Option Addr) (n c : Nat) (l : List Int) (w : World) (hn : n ≤ 1000) (hl : l.length = n) (hr : Reads w w.heap.size 1 A n (ints .u64 l)) (hw : ∀ x ∈ l, W64 x) :
    Calls Try.prog 22 #[.slice A n c] w fun e w' => (∃ v, e = .returned v ∧ ∃ m, w'.ownsRow w.heap.size 22 1 v m (ints .u64 (onceL l))) ∧ Below w.heap.size w w' := by
  obtain ⟨i0, hi0, hz0, hs0, hb0⟩ := info_parts infoU
  have Hl := hide hl
  clear hl
  go_enter Try.func22, Try.ntmps22
  go_wp2_with fail
  go_loopw [3, 4] (RefIn n l w) (fun _ i _ => n - (intOf i).toNat)
  case atStart => exact ⟨0, none, 0, 0, rfl, by omega, rfl, Below.refl _ _, rfl, World.ownsRow_nil _ _ _ _⟩
  case round =>
    obtain ⟨k, A1, n1, c1, rfl, hk, rfl, hb, hn1, hown⟩ := hrel
    have Hn1 := hide hn1
    have Hon := hide (onceL_len (l.take k))
    clear hn1
    by_cases hlt : k < n
    · have hkl0 : k < l.length := by rw [Hl.out]; exact hlt
      have Htk := hide (take_snoc' l k hkl0)
      have hm1 : n1 ≤ 4294967296 := by rw [Hn1.out]; have := Hon.out; have := List.length_take_le k l; omega
      have hx := hw _ (List.getElem_mem hkl0)
      have Hs := hide (onceL_snoc (l.take k) l[k])
      have Z1 := hide (fun w2 (hB : Below w.heap.size w w2) => (hr.below hB).word hlt)
      have hx0 := hx.1
      have hx1 := hx.2
      go_wp2_with fail
      go_loopw [5, 6] (InnIn k l[k] l wr) (fun _ j _ => k - (intOf j).toNat)
      case atStart => exact ⟨0, 0, rfl, by omega, rfl, rfl⟩
      case round =>
        obtain ⟨p, q, rfl, hp, rfl, rfl⟩ := hrel
        have hb2 := below_drewN hb q
        by_cases hpk : p < k
        · have hpl : p < l.length := by omega
          have hy := hw _ (List.getElem_mem hpl)
          have Hpk := hide (take_snoc' l p hpl)
          obtain ⟨a, ea, _, z1⟩ := Z1.out _ hb
          subst ea
          obtain ⟨a', ea, _, z2⟩ := (hr.below hb).word (k := p) (by omega)
          injection ea with ea
          subst ea
          have hsk : ((l[p] % 1099511627776) == (l[k] % 1099511627776)) = sameK l[k] l[p] := by rw [sameK_comm]; rfl
          have Hsk := hide hsk
          have hpn1 : (p : Int) < (n : Int) := by omega
          have hkn1 : (k : Int) < (n : Int) := by omega
          have hy0 := hy.1
          have hy1 := hy.2
          clear hsk
          generalize l[p] = y at *
          generalize l[k] = x at *
          cases hsm : sameK x y with
          | true =>
            have Hq := hide hsm
            have e1 : ((y % 1099511627776) == (x % 1099511627776)) = true := by rw [Hsk.out, hsm]
            clear hsm
            go_wp2_with fail
            go_quiet (fail)
            go_wp2_with fail
            go_roundw
            case measure => simp [intOf]; omega
            case rel => exact ⟨p + 1, _, by go_num, by omega, by rw [Hpk.out, List.any_append]; simp [Hq.out], rfl⟩
          | false =>
            have Hq := hide hsm
            have e1 : ((y % 1099511627776) == (x % 1099511627776)) = false := by rw [Hsk.out, hsm]
            clear hsm
            go_wp2_with fail
            go_quiet (fail)
            go_wp2_with fail
            go_roundw
            case measure => simp [intOf]; omega
            case rel => exact ⟨p + 1, _, by go_num, by omega, by rw [Hpk.out, List.any_append]; simp [Hq.out], rfl⟩
        · have hpe : p = k := by omega
          subst hpe
          obtain ⟨a, ea, _, z1⟩ := Z1.out _ hb2
          subst ea
          generalize l[p] = x at *
          cases hany : (l.take p).any (fun y => sameK x y) with
          | true =>
            have Hf := hide ((congrArg onceL Htk.out).trans (Hs.out.trans (if_pos hany)))
            clear hany
            go_wp2_with fail
            go_roundw
            case measure => simp [intOf]; omega
            case rel => exact ⟨p + 1, A1, n1, c1, by go_num, by omega, rfl, hb2, by rw [Hf.out]; exact Hn1.out, by rw [Hf.out]; exact hown⟩
          | false =>
            have Hf := hide ((congrArg onceL Htk.out).trans (Hs.out.trans (if_neg (by rw [hany]; simp))))
            clear hany
            have ho1 : ((wr.drewN q).alloc (.cells #[.int .u64 x] 22)).ownsRow w.heap.size 22 1 (.slice A1 n1 c1) n1 (ints .u64 (onceL (l.take p))) := (show (wr.drewN q).ownsRow w.heap.size 22 1 (.slice A1 n1 c1) n1 (ints .u64 (onceL (l.take p))) from hown).alloc _
            have hsz := hb2.size
            generalize wr.drewN q = w2 at *
            go_wp2_with (at_builtin; refine wpList_append_one rfl (.tmp 30) (.tmp 35) _ rfl w.heap.size 22 i0 _ 1 8 Try.underlying36 hi0 hz0 hs0 hb0 rfl (by omega) (by omega) (.slice A1 n1 c1) n1 _ rfl ho1 w2.heap.size #[.int .u64 x] rfl (Blk.new _ _ _) rfl rfl hm1 (by simp; omega) ?_; intro A3 c3 w3 hown3 hg3 hat3)
            have hb3 := below_appended (hb2.alloc hsz _) ho1 hg3 (Nat.le_refl _) (by rw [World.size_alloc]; omega)
            go_roundw
            case measure => simp [intOf]; omega
            case rel => exact ⟨p + 1, A3, n1 + 1, c3, by go_num, by omega, rfl, hb3, by rw [Hf.out, List.length_append, ← Hn1.out]; rfl, by rw [Hf.out, ints_append]; exact hown3⟩
    · have e : l.take k = l := List.take_of_length_le (by rw [Hl.out]; omega)
      rw [e] at hown
      clear e
      go_wp2_with fail
      go_ret
      exact ⟨⟨_, rfl, _, hown⟩, hb⟩

def WordsIn (n : Nat) (w : World) (i : Value) (wr : World) : Prop := ∃ (k : Nat), i = .int .i64 k ∧ k ≤ n ∧ Below w.heap.size w wr
set_option maxHeartbeats 400000 in
theorem Words_eq (A B : Option Addr) (n c d : Nat) (l : List Int) (w : World) (hn : n ≤ 4294967296) (hA : Reads w w.heap.size 1 A n (ints .u64 l)) (hB : Reads w w.heap.size 1 B n (ints .u64 l)) :
    Calls Try.prog 20 #[.slice A n c, .slice B n d] w fun r w' => r = .returned (.bool true) ∧ Below w.heap.size w w' := by
  go_enter Try.func20, Try.ntmps20
  go_wp2_with fail
  go_loopw [5] (WordsIn n w) (fun i _ => n - (intOf i).toNat)
  case atStart => exact ⟨0, rfl, by omega, Below.refl _ _⟩
  case round =>
    obtain ⟨k, rfl, hk, hb⟩ := hrel
    by_cases hlt : k < n
    · obtain ⟨a, rfl, _, z1⟩ := (hA.below hb).word hlt
      obtain ⟨b, rfl, _, z3⟩ := (hB.below hb).word hlt
      generalize l[k] = x at *
      go_wp2_with fail
      go_quiet (fail)
      go_wp2_with fail
      go_roundw
      case rel => exact ⟨k + 1, by go_num, by omega, below_drewN hb _⟩
      case measure => simp [intOf]; omega
    · go_wp2_with fail
      go_ret
      exact ⟨rfl, hb⟩

theorem HandleOnce_calls (A : Option Addr) (n c : Nat) (l : List Int) (w : World) (hn : n ≤ maxLen) (hl : l.length = n) (hr : Reads w w.heap.size 1 A n (ints .u64 l)) (hw : ∀ x ∈ l, W64 x) :
    Calls Try.prog 6 #[.slice A n c] w fun r w' => r = .returned (.bool true) ∧ Below w.heap.size w w' := by
  unfold maxLen at hn
  by_cases h1 : 60 < n
  · clear hl
    go_enter Try.func6, Try.ntmps6
    go_wp2_with fail
    refine (awake03 _).mono ?_
    rintro e w5 ⟨rfl, hb5⟩
    go_wp2_with fail
    go_ret
    exact ⟨rfl, hb5⟩
  · have h1' : n ≤ 60 := by omega
    have O1 := hide (once_any A n c l w (by omega) hl hr hw)
    have O2 := hide (fun w2 (hB : Below w.heap.size w w2) => ronce_any A n c l w2 (by omega) hl ((hr.below hB).more hB.size) hw)
    have Hlen := hide (show (onceL l).length ≤ 4294967296 by have := onceL_len l; omega)
    clear h1 hn hl
    go_enter Try.func6, Try.ntmps6
    go_wp2_with fail
    refine O1.out.mono ?_
    rintro e w1 ⟨⟨v1, rfl, m1, o1⟩, hb1⟩
    obtain ⟨A1, c1, rfl, r1⟩ := own_reads o1
    clear o1
    go_wp2_with fail
    refine (O2.out _ hb1).mono ?_
    rintro e w2 ⟨⟨v2, rfl, m2, o2⟩, hb2⟩
    obtain ⟨A2, c2, rfl, r2⟩ := own_reads o2
    clear o2
    have L1 : m1 = (onceL l).length := by have := r1.lenWord; simpa using this.symm
    have L2 : m2 = (onceL l).length := by have := r2.lenWord; simpa using this.symm
    subst L1 L2
    replace r1 := (r1.below hb2).more hb2.size
    have W1 := hide (Words_eq A1 A2 _ c1 c2 (onceL l) w2 Hlen.out r1 r2)
    generalize (onceL l).length = m at *
    replace hb1 := hb1.trans (hb2.mono hb1.size)
    clear hb2
    go_wp2_with fail
    refine W1.out.mono ?_
    rintro e w3 ⟨rfl, hb3⟩
    replace hb1 := hb1.trans (hb3.mono hb1.size)
    go_wp2_with fail
    refine (awake03 _).mono ?_
    rintro e w4 ⟨rfl, hb4⟩
    go_wp2_with fail
    go_ret
    exact ⟨rfl, hb1.trans (hb4.mono hb1.size)⟩
end Go.Proofs.Ythpgoglhccoeeaa
