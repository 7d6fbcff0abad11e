/-
  Chapter 11: SeekComes.
-/
import Derived.Test.YtegephdgboaedaaSeekD
namespace Go.Proofs.Ytegephdgboaedaa
open Go.RowKit

def SortedTo (l : List Int) (k : Nat) : Prop := ∀ i j, i ≤ j → j < k → l.getD i 0 ≤ l.getD j 0

theorem spass_mono {kind key a b : Int} (h : spass kind key b = true) (hab : a ≤ b) : spass kind key a = true := by
  unfold spass at *
  split at h <;> simp_all <;> omega

theorem filter_prefix {p : Int → Bool} : ∀ {l : List Int} {m : Nat}, m ≤ l.length → (∀ i, i < m → p (l.getD i 0) = true) → (∀ i, m ≤ i → i < l.length → p (l.getD i 0) = false) → (l.filter p).length = m
  | [], m, hm, _, _ => by simp at hm; simp [hm]
  | x :: l, 0, _, _, h2 => by
    have h0 : p x = false := by simpa using h2 0 (by omega) (by simp)
    rw [List.filter_cons_of_neg (by simp [h0])]
    exact filter_prefix (m := 0) (by omega) (fun i hi => by omega) (fun i _ hi => by simpa using h2 (i + 1) (by omega) (by simpa using hi))
  | x :: l, m + 1, hm, h1, h2 => by
    have h0 : p x = true := by simpa using h1 0 (by omega)
    rw [List.filter_cons_of_pos h0, List.length_cons]
    congr 1
    exact filter_prefix (m := m) (by simpa using hm) (fun i hi => by simpa using h1 (i + 1) (by omega)) (fun i hi hl => by simpa using h2 (i + 1) (by omega) (by simpa using hl))

theorem sgo_count {kind key : Int} {l : List Int} (hs : SortedTo l l.length) : ∀ (f : Nat) (lo hi : Int), SOk lo hi → hi ≤ l.length → (hi - lo).toNat ≤ f →
    (∀ i, i < lo.toNat → spass kind key (l.getD i 0) = true) → (∀ i, hi.toNat ≤ i → i < l.length → spass kind key (l.getD i 0) = false) → sgo kind key l f lo hi = (l.filter (spass kind key)).length
  | f, lo, hi, hok, hl, hf, h1, h2 => by
    obtain ⟨a1, a2, a3⟩ := hok
    by_cases c : hi ≤ lo
    · have e : sgo kind key l f lo hi = lo := by cases f with
        | zero => rfl
        | succ f => exact if_pos c
      rw [e, filter_prefix (m := lo.toNat) (by omega) h1 (fun i hi' => h2 i (by omega))]
      omega
    · cases f with
      | zero => omega
      | succ f =>
        show (if hi ≤ lo then lo else _) = _
        rw [if_neg c]
        have hless := s_less (kind := kind) (key := key) (k := l.getD (lo + (hi - lo) / 2).toNat 0) ⟨a1, a2, a3⟩ (by omega)
        refine sgo_count hs f _ _ (SOk.next ⟨a1, a2, a3⟩) (by omega) (by omega) (fun i hi' => ?_) (fun i hi' hil => ?_)
        · unfold slo at hi'
          rw [if_neg c] at hi'
          by_cases d : spass kind key (l.getD (lo + (hi - lo) / 2).toNat 0) = true
          · rw [if_pos d] at hi'
            exact spass_mono d (hs i _ (by omega) (by omega))
          · rw [if_neg d] at hi'
            exact h1 i hi'
        · unfold shi at hi'
          rw [if_neg c] at hi'
          by_cases d : spass kind key (l.getD (lo + (hi - lo) / 2).toNat 0) = true
          · rw [if_pos d] at hi'
            exact h2 i hi' hil
          · rw [if_neg d] at hi'
            rcases hb : spass kind key (l.getD i 0) with _ | _
            · rfl
            · exact absurd (spass_mono hb (hs _ i (by omega) hil)) d

theorem sfind_count {kind key : Int} {l : List Int} (hs : SortedTo l l.length) (hl : l.length ≤ 1000) : sfind kind key l = if kind = 1 ∨ kind = 2 then ((l.filter (spass kind key)).length : Int) else 0 := by
  unfold sfind
  by_cases c : kind = 1 ∨ kind = 2
  · rw [if_pos c]
    have e : snew kind l.length = l.length := if_neg (by omega)
    rw [e]
    exact sgo_count hs _ _ _ ⟨by omega, by omega, by omega⟩ (by omega) (by omega) (fun i hi => by simp at hi) (fun i h1 h2 => by omega)
  · rw [if_neg c]
    have e : snew kind l.length = 0 := if_pos (by omega)
    rw [e]
    cases l.length <;> rfl

def CountIn (n : Nat) (l : List Int) (p : Int → Bool) (v i : Value) : Prop := ∃ k : Nat, i = .int .i64 k ∧ k ≤ n ∧ v = .int .i64 ((l.take k).filter p).length

set_option maxHeartbeats 800000 in
theorem rcount_any (kind key : Int) (A : Option Addr) (n c : Nat) (l : List Int) (w : World) (hn : n ≤ 1000) (hr : Reads w w.heap.size 1 A n (ints .u64 l)) (hk : kind = 1 ∨ kind = 2) :
    Calls Try.prog 16 #[.int .i64 kind, .slice A n c, .int .u64 key] w fun e w' => e = .returned (.int .i64 (l.filter (spass kind key)).length) ∧ w = w' := by
  go_enter Try.func16, Try.ntmps16
  go_wp2_with fail
  go_loop [7, 8] (CountIn n l (spass kind key)) (fun _ i => n - (intOf i).toNat)
  case atStart => exact ⟨0, rfl, by omega, rfl⟩
  case round =>
    obtain ⟨k, rfl, hkn, rfl⟩ := hrel
    have hlen := filter_len_take (spass kind key) l k
    by_cases hlt : k < n
    · obtain ⟨a, rfl, hkl, z1⟩ := hr.word hlt
      have Htk := hide (take_snoc' l k hkl)
      generalize l[k] = x at *
      have yes : spass kind key x = true → Hid (((l.take (k + 1)).filter (spass kind key)).length = ((l.take k).filter (spass kind key)).length + 1) := fun h => hide (by rw [Htk.out, filter_snoc_yes h]; simp)
      have no : spass kind key x = false → Hid (((l.take (k + 1)).filter (spass kind key)).length = ((l.take k).filter (spass kind key)).length) := fun h => hide (by rw [Htk.out, filter_snoc_no h])
      rcases (show (kind = 1 ∧ x < key) ∨ (kind = 1 ∧ key ≤ x) ∨ (kind = 2 ∧ x < key) ∨ (kind = 2 ∧ x = key) ∨ (kind = 2 ∧ key < x) by omega) with ⟨rfl, hkk⟩ | ⟨rfl, hkk⟩ | ⟨rfl, hkk⟩ | ⟨rfl, rfl⟩ | ⟨rfl, hkk⟩
      all_goals clear hk
      · have Y := yes (by simp [spass, hkk])
        clear yes no
        generalize ((l.take k).filter (spass 1 key)).length = m at *
        go_wp2_with fail
        go_round
        case rel => exact ⟨k + 1, by go_num, by omega, by rw [Y.out]; go_num⟩
        case measure => simp [intOf]; omega
      · have Y := no (by simp [spass, hkk])
        clear yes no
        generalize ((l.take k).filter (spass 1 key)).length = m at *
        go_wp2_with fail
        go_round
        case rel => exact ⟨k + 1, by go_num, by omega, by rw [Y.out]⟩
        case measure => simp [intOf]; omega
      · have Y := yes (by simp [spass]; omega)
        clear yes no
        generalize ((l.take k).filter (spass 2 key)).length = m at *
        go_wp2_with fail
        go_round
        case rel => exact ⟨k + 1, by go_num, by omega, by rw [Y.out]; go_num⟩
        case measure => simp [intOf]; omega
      · have Y := yes (by simp [spass])
        clear yes no
        generalize ((l.take k).filter (spass 2 _)).length = m at *
        go_wp2_with fail
        go_round
        case rel => exact ⟨k + 1, by go_num, by omega, by rw [Y.out]; go_num⟩
        case measure => simp [intOf]; omega
      · have Y := no (by simp [spass, hkk])
        have hne : (x == key) = false := beq_eq_false_iff_ne.2 (by omega)
        clear yes no
        generalize ((l.take k).filter (spass 2 key)).length = m at *
        go_wp2_with fail
        go_round
        case rel => exact ⟨k + 1, by go_num, by omega, by rw [Y.out]⟩
        case measure => simp [intOf]; omega
    · have e : l.take k = l := List.take_of_length_le (by have := hr.lenWord; omega)
      rw [e]
      clear e
      go_wp2_with fail
      go_ret
      exact ⟨rfl, rfl⟩

theorem reads_prefix {w : World} {B n m : Nat} {A : Option Addr} {l : List Int} (h : Reads w B 1 A n (ints .u64 l)) (hm : m ≤ n) : Reads w B 1 A m (ints .u64 (l.take m)) := by
  have hl := h.lenWord
  refine ⟨by rw [ints_len, List.length_take]; omega, fun h0 => ?_⟩
  obtain ⟨ad, e, hb, hc⟩ := h.2 (by omega)
  refine ⟨ad, e, hb, fun j u hu => hc j u ?_⟩
  unfold ints at *
  rw [List.map_take, List.getElem?_take] at hu
  split at hu
  · exact hu
  · cases hu

def ComesIn (n0 : Nat) (A : Option Addr) (c : Nat) (l : List Int) (w : World) (v i : Value) (wr : World) : Prop :=
  ∃ k j m : Nat, j = k + 1 ∧ i = .int .i64 (j : Int) ∧ v = .slice A m c ∧ m ≤ n0 ∧ (j ≤ m → SortedTo l j) ∧ (m ≤ j → SortedTo l m) ∧ k ≤ n0 ∧ Below w.heap.size w wr

theorem sorted_small {l : List Int} {m : Nat} (h : m ≤ 1) : SortedTo l m := by
  intro i j hij hj
  obtain rfl : i = j := by omega
  exact Int.le_refl _
theorem sorted_take {l : List Int} {m : Nat} (h : SortedTo l m) (hm : m ≤ l.length) : SortedTo (l.take m) (l.take m).length := by
  intro i j hij hj
  rw [List.length_take] at hj
  have e : ∀ i, i < m → (l.take m).getD i 0 = l.getD i 0 := fun i hi => by simp [List.getD, hi]
  rw [e i (by omega), e j (by omega)]
  exact h i j hij (by omega)
theorem sorted_succ {l : List Int} {k : Nat} (h : SortedTo l k) (h1 : 1 ≤ k) (hle : l.getD (k - 1) 0 ≤ l.getD k 0) : SortedTo l (k + 1) := by
  intro i j hij hj
  by_cases hjk : j < k
  · exact h i j hij hjk
  · obtain rfl : j = k := by omega
    by_cases hik : i = j
    · subst hik; exact Int.le_refl _
    · exact Int.le_trans (h i (j - 1) (by omega) (by omega)) hle

set_option maxHeartbeats 2000000 in
theorem SeekComes_calls (kind key : Int) (A : Option Addr) (n c : Nat) (l0 : List Int) (w : World) (hr0 : Reads w w.heap.size 1 A n (ints .u64 l0)) (hnc : n ≤ c) (hc : c ≤ 9223372036854775807) :
    Calls Try.prog 4 #[.int .i64 kind, .slice A n c, .int .u64 key] w fun r w' => r = .returned (.bool true) ∧ Below w.heap.size w w' := by
  by_cases hbig : 200 < n
  · have hr := reads_prefix hr0 (m := 200) (by omega)
    generalize l0.take 200 = l at *
    have hn : 200 ≤ 200 := Nat.le_refl _
    go_enter Try.func4, Try.ntmps4
    go_wp2_with fail
    go_loopw [1, 7] (ComesIn 200 A c l w) (fun _ i _ => 1000 - (intOf i).toNat)
    case atStart => exact ⟨0, 1, 200, rfl, rfl, rfl, by omega, fun _ => sorted_small (Nat.le_refl _), fun hm => sorted_small hm, by omega, Below.refl _ _⟩
    case round =>
      obtain ⟨k, j, m, hj, rfl, rfl, hm, s1, s2, hk, hb⟩ := hrel
      have S1 := hide s1
      have S2 := hide s2
      clear s1 s2
      by_cases hlt : j < m
      · obtain ⟨a, ea, hkl, z1⟩ := (hr.below hb).word (k := j) (by omega)
        obtain ⟨a2, ea2, hkl2, z2⟩ := (hr.below hb).word (k := k) (by omega)
        rw [ea] at ea2
        injection ea2 with ea2
        subst ea ea2
        have G1 := hide (show l.getD j 0 = l[j] by simp [List.getD, hkl])
        have G2 := hide (show l.getD k 0 = l[k] by simp [List.getD, hkl2])
        generalize l[j] = x at *
        generalize l[k] = y at *
        have q1 : (j : Int) - 1 = (k : Int) := by omega
        have q8 : (k : Int) + 1 = (j : Int) := by omega
        have q9 : k + 1 = j := hj.symm
        clear hj
        by_cases hxy : x < y
        · have hs := S1.out (by omega)
          have Hs := hide hs
          clear hs
          go_wp2_with fail
          go_quiet (fail)
          go_wp2_with fail
          go_roundw
          case rel => exact ⟨j, j + 1, j, rfl, by go_num, rfl, by omega, fun h => by omega, fun _ => Hs.out, by omega, below_drewN hb _⟩
          case measure => simp [intOf]; omega
        · have hs : SortedTo l (j + 1) := sorted_succ (S1.out (by omega)) (by omega) (by rw [G1.out, show j - 1 = k by omega, G2.out]; omega)
          have Hs := hide hs
          have hyx : y ≤ x := by omega
          clear hs hxy
          go_wp2_with fail
          go_quiet (fail)
          go_wp2_with fail
          go_roundw
          case rel => exact ⟨j, j + 1, m, rfl, by go_num, rfl, by omega, fun _ => Hs.out, fun h => by (obtain rfl : m = j + 1 := by omega); exact Hs.out, by omega, below_drewN hb _⟩
          case measure => simp [intOf]; omega
      · have hs := S2.out (by omega)
        have hl := hr.lenWord
        have hst := sorted_take hs (by omega)
        have hrm := reads_prefix hr hm
        have hlm : (l.take m).length ≤ 1000 := by rw [List.length_take]; omega
        have SF := sfind_count (kind := kind) (key := key) hst hlm
        have Hst := hide hst
        clear hs hst hl hlm
        generalize l.take m = lm at *
        have OF := hide (fun w (h : Reads w w.heap.size 1 A m (ints .u64 lm)) => of_any kind key A m c lm w (by omega) h)
        rw [SF] at OF
        clear SF
        by_cases h1 : kind = 1
        · rw [if_pos (.inl h1)] at OF
          have RC := hide (fun w (h : Reads w w.heap.size 1 A m (ints .u64 lm)) => rcount_any kind key A m c lm w (by omega) h (.inl h1))
          have h1' : (kind == 1) = true := by simpa using h1
          clear h1
          generalize (lm.filter (spass kind key)).length = cnt at *
          go_wp2_with fail
          refine (RC.out wr ((hrm.below hb).more hb.size)).mono ?_
          rintro e w1 ⟨rfl, rfl⟩
          go_wp2_with fail
          refine (OF.out wr ((hrm.below hb).more hb.size)).mono ?_
          rintro e w1 ⟨rfl, hb1⟩
          have B1 := hb.trans (hb1.mono hb.size)
          go_wp2_with fail
          refine (awake11 _).mono ?_
          rintro e w2 ⟨rfl, hb2⟩
          go_wp2_with fail
          go_ret
          exact ⟨rfl, B1.trans (hb2.mono B1.size)⟩
        by_cases h2 : kind = 2
        · rw [if_pos (.inr h2)] at OF
          have RC := hide (fun w (h : Reads w w.heap.size 1 A m (ints .u64 lm)) => rcount_any kind key A m c lm w (by omega) h (.inr h2))
          have h1' : (kind == 1) = false := by simpa using h1
          have h2' : (kind == 2) = true := by simpa using h2
          clear h1 h2
          generalize (lm.filter (spass kind key)).length = cnt at *
          go_wp2_with fail
          refine (RC.out wr ((hrm.below hb).more hb.size)).mono ?_
          rintro e w1 ⟨rfl, rfl⟩
          go_wp2_with fail
          refine (OF.out wr ((hrm.below hb).more hb.size)).mono ?_
          rintro e w1 ⟨rfl, hb1⟩
          have B1 := hb.trans (hb1.mono hb.size)
          go_wp2_with fail
          refine (awake11 _).mono ?_
          rintro e w2 ⟨rfl, hb2⟩
          go_wp2_with fail
          go_ret
          exact ⟨rfl, B1.trans (hb2.mono B1.size)⟩
        · rw [if_neg (by omega)] at OF
          have h1' : (kind == 1) = false := by simpa using h1
          have h2' : (kind == 2) = false := by simpa using h2
          clear h1 h2
          go_wp2_with fail
          refine (OF.out wr ((hrm.below hb).more hb.size)).mono ?_
          rintro e w1 ⟨rfl, hb1⟩
          have B1 := hb.trans (hb1.mono hb.size)
          go_wp2_with fail
          refine (awake11 _).mono ?_
          rintro e w2 ⟨rfl, hb2⟩
          go_wp2_with fail
          go_ret
          exact ⟨rfl, B1.trans (hb2.mono B1.size)⟩
  · have hr := hr0
    generalize l0 = l at *
    have hn : n ≤ 200 := by omega
    clear hr0 hbig
    go_enter Try.func4, Try.ntmps4
    go_wp2_with fail
    go_loopw [1, 7] (ComesIn n A c l w) (fun _ i _ => 1000 - (intOf i).toNat)
    case atStart => exact ⟨0, 1, n, rfl, rfl, rfl, by omega, fun _ => sorted_small (Nat.le_refl _), fun hm => sorted_small hm, by omega, Below.refl _ _⟩
    case round =>
      obtain ⟨k, j, m, hj, rfl, rfl, hm, s1, s2, hk, hb⟩ := hrel
      have S1 := hide s1
      have S2 := hide s2
      clear s1 s2
      by_cases hlt : j < m
      · obtain ⟨a, ea, hkl, z1⟩ := (hr.below hb).word (k := j) (by omega)
        obtain ⟨a2, ea2, hkl2, z2⟩ := (hr.below hb).word (k := k) (by omega)
        rw [ea] at ea2
        injection ea2 with ea2
        subst ea ea2
        have G1 := hide (show l.getD j 0 = l[j] by simp [List.getD, hkl])
        have G2 := hide (show l.getD k 0 = l[k] by simp [List.getD, hkl2])
        generalize l[j] = x at *
        generalize l[k] = y at *
        have q1 : (j : Int) - 1 = (k : Int) := by omega
        have q8 : (k : Int) + 1 = (j : Int) := by omega
        have q9 : k + 1 = j := hj.symm
        clear hj
        by_cases hxy : x < y
        · have hs := S1.out (by omega)
          have Hs := hide hs
          clear hs
          go_wp2_with fail
          go_quiet (fail)
          go_wp2_with fail
          go_roundw
          case rel => exact ⟨j, j + 1, j, rfl, by go_num, rfl, by omega, fun h => by omega, fun _ => Hs.out, by omega, below_drewN hb _⟩
          case measure => simp [intOf]; omega
        · have hs : SortedTo l (j + 1) := sorted_succ (S1.out (by omega)) (by omega) (by rw [G1.out, show j - 1 = k by omega, G2.out]; omega)
          have Hs := hide hs
          have hyx : y ≤ x := by omega
          clear hs hxy
          go_wp2_with fail
          go_quiet (fail)
          go_wp2_with fail
          go_roundw
          case rel => exact ⟨j, j + 1, m, rfl, by go_num, rfl, by omega, fun _ => Hs.out, fun h => by (obtain rfl : m = j + 1 := by omega); exact Hs.out, by omega, below_drewN hb _⟩
          case measure => simp [intOf]; omega
      · have hs := S2.out (by omega)
        have hl := hr.lenWord
        have hst := sorted_take hs (by omega)
        have hrm := reads_prefix hr hm
        have hlm : (l.take m).length ≤ 1000 := by rw [List.length_take]; omega
        have SF := sfind_count (kind := kind) (key := key) hst hlm
        have Hst := hide hst
        clear hs hst hl hlm
        generalize l.take m = lm at *
        have OF := hide (fun w (h : Reads w w.heap.size 1 A m (ints .u64 lm)) => of_any kind key A m c lm w (by omega) h)
        rw [SF] at OF
        clear SF
        by_cases h1 : kind = 1
        · rw [if_pos (.inl h1)] at OF
          have RC := hide (fun w (h : Reads w w.heap.size 1 A m (ints .u64 lm)) => rcount_any kind key A m c lm w (by omega) h (.inl h1))
          have h1' : (kind == 1) = true := by simpa using h1
          clear h1
          generalize (lm.filter (spass kind key)).length = cnt at *
          go_wp2_with fail
          refine (RC.out wr ((hrm.below hb).more hb.size)).mono ?_
          rintro e w1 ⟨rfl, rfl⟩
          go_wp2_with fail
          refine (OF.out wr ((hrm.below hb).more hb.size)).mono ?_
          rintro e w1 ⟨rfl, hb1⟩
          have B1 := hb.trans (hb1.mono hb.size)
          go_wp2_with fail
          refine (awake11 _).mono ?_
          rintro e w2 ⟨rfl, hb2⟩
          go_wp2_with fail
          go_ret
          exact ⟨rfl, B1.trans (hb2.mono B1.size)⟩
        by_cases h2 : kind = 2
        · rw [if_pos (.inr h2)] at OF
          have RC := hide (fun w (h : Reads w w.heap.size 1 A m (ints .u64 lm)) => rcount_any kind key A m c lm w (by omega) h (.inr h2))
          have h1' : (kind == 1) = false := by simpa using h1
          have h2' : (kind == 2) = true := by simpa using h2
          clear h1 h2
          generalize (lm.filter (spass kind key)).length = cnt at *
          go_wp2_with fail
          refine (RC.out wr ((hrm.below hb).more hb.size)).mono ?_
          rintro e w1 ⟨rfl, rfl⟩
          go_wp2_with fail
          refine (OF.out wr ((hrm.below hb).more hb.size)).mono ?_
          rintro e w1 ⟨rfl, hb1⟩
          have B1 := hb.trans (hb1.mono hb.size)
          go_wp2_with fail
          refine (awake11 _).mono ?_
          rintro e w2 ⟨rfl, hb2⟩
          go_wp2_with fail
          go_ret
          exact ⟨rfl, B1.trans (hb2.mono B1.size)⟩
        · rw [if_neg (by omega)] at OF
          have h1' : (kind == 1) = false := by simpa using h1
          have h2' : (kind == 2) = false := by simpa using h2
          clear h1 h2
          go_wp2_with fail
          refine (OF.out wr ((hrm.below hb).more hb.size)).mono ?_
          rintro e w1 ⟨rfl, hb1⟩
          have B1 := hb.trans (hb1.mono hb.size)
          go_wp2_with fail
          refine (awake11 _).mono ?_
          rintro e w2 ⟨rfl, hb2⟩
          go_wp2_with fail
          go_ret
          exact ⟨rfl, B1.trans (hb2.mono B1.size)⟩
end Go.Proofs.Ytegephdgboaedaa
