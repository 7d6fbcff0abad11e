/-
  An epoch that goes on: what it becomes of what it is told, in plain Lean.
-/
import Derived.Test.YtgcdmgpcfdfomaaDoorPlain
import Derived.Test.YtgcdmgpcfdfomaaDoorAwordD
import Derived.Test.YtgcdmgpcfdfomaaDoorLayP
namespace Go.Proofs.YtgcdmgpcfdfomaaDoor
open Go.RowKit

/-- The step, the outcome, the epoch, the thread, the word that were loaded, those that were evicted bit by bit, one more than the one evicted last. -/
structure Av where
  k : Int
  oc : Int
  ep : Int
  th : Int
  wd : Int
  ev : Nat
  ju : Int

def aThr (own q : Int) : Int := if q = own then q + 1 else q
def aStep (t q : Int) : Int := if t ≤ q then 5 else 2
def aNext (own t : Int) (x : Av) (q : Int) : Av := ⟨aStep t (aThr own q), x.oc, x.ep, aThr own q, x.wd, x.ev, x.ju⟩
def aTook (own t p : Int) (x : Av) (g : Int) : Av :=
  if x.k = 0 then x
  else if x.k = 1 then aNext own t ⟨x.k, x.oc, g, x.th, x.wd, x.ev, 0⟩ 0
  else if x.k = 2 then (if ablocks g x.ep = true then ⟨3, x.oc, x.ep, x.th, g, x.ev, 0⟩ else aNext own t ⟨x.k, x.oc, x.ep, x.th, g, x.ev, 0⟩ (x.th + 1))
  else if x.k = 3 then (if astall x.wd g p = true then ⟨4, x.oc, x.ep, x.th, x.wd, x.ev, 0⟩ else ⟨0, 1, x.ep, x.th, x.wd, x.ev, 0⟩)
  else if x.k = 4 then (if g = 1 then aNext own t ⟨x.k, x.oc, x.ep, x.th, x.wd, x.ev ||| 2 ^ x.th.toNat, x.th + 1⟩ (x.th + 1) else ⟨2, x.oc, x.ep, x.th, x.wd, x.ev, 0⟩)
  else ⟨0, (if g = 1 then 3 else 2), x.ep, x.th, x.wd, x.ev, 0⟩
/-- What may stand: Y: it was made well. -/
def AvOk (own t : Int) (Y : Prop) (x : Av) : Prop :=
  (x.k = 0 ∨ x.k = 1 ∨ x.k = 2 ∨ x.k = 3 ∨ x.k = 4 ∨ x.k = 5) ∧ W64 x.ep ∧ W64 x.wd ∧ (0 ≤ x.oc ∧ x.oc ≤ 3) ∧ (0 ≤ x.ju ∧ x.ju ≤ 64) ∧ x.ev < 2 ^ 64 ∧
  (x.k = 0 ∨ (Y ∧ (1 ≤ t ∧ t ≤ 64) ∧ (0 ≤ own ∧ own < t) ∧ (0 ≤ x.th ∧ x.th ≤ t) ∧ x.ev < 2 ^ x.th.toNat)) ∧ (x.k = 2 ∨ x.k = 3 ∨ x.k = 4 → x.th < t) ∧ (x.k = 1 → x.th = 0)
theorem pow_lt {n : Nat} {a b : Int} (h : n < 2 ^ a.toNat) (hab : a ≤ b) : n < 2 ^ b.toNat := Nat.lt_of_lt_of_le h (Nat.pow_le_pow_right (by omega) (by omega))
theorem aNext_ok {own t : Int} {Y : Prop} {x : Av} {q : Int} (hY : Y) (he : W64 x.ep) (hw : W64 x.wd) (ho : 0 ≤ x.oc ∧ x.oc ≤ 3) (hj : 0 ≤ x.ju ∧ x.ju ≤ 64) (hv : x.ev < 2 ^ q.toNat) (ht : 1 ≤ t ∧ t ≤ 64) (hown : 0 ≤ own ∧ own < t) (hq : 0 ≤ q ∧ q ≤ t) : AvOk own t Y (aNext own t x q) := by
  have h1 : q ≤ aThr own q ∧ aThr own q ≤ t := by
    unfold aThr
    split <;> omega
  have h5 : (aStep t (aThr own q) = 2 ∧ aThr own q < t) ∨ aStep t (aThr own q) = 5 := by
    unfold aStep
    split
    · exact .inr rfl
    · exact .inl ⟨rfl, by omega⟩
  have hv2 := pow_lt hv h1.1
  have hv3 : x.ev < 2 ^ 64 := Nat.lt_of_lt_of_le hv (Nat.pow_le_pow_right (by omega) (by omega))
  unfold AvOk aNext
  generalize aStep t (aThr own q) = k at *
  generalize aThr own q = th at *
  simp only
  refine ⟨by omega, he, hw, ho, hj, hv3, .inr ⟨hY, ht, hown, ⟨by omega, h1.2⟩, hv2⟩, by omega, by omega⟩
theorem aTook_ok {own t p : Int} {Y : Prop} {x : Av} {g : Int} (h : AvOk own t Y x) (hg : W64 g) : AvOk own t Y (aTook own t p x g) := by
  have h' := h
  obtain ⟨hk, he, hw, ho, hj, hv, hz, hl, h1⟩ := h
  unfold aTook
  split
  · exact h'
  next h0 =>
  obtain ⟨hY, ht, hown, hth, hv2⟩ := hz.resolve_left h0
  split
  next c =>
    refine aNext_ok hY hg hw ho ⟨by simp, by simp⟩ ?_ ht hown ⟨by omega, by omega⟩
    rw [h1 c] at hv2
    exact hv2
  split
  next c =>
    have hlt := hl (.inl c)
    split
    · exact ⟨by simp, he, hg, ho, by simp, hv, .inr ⟨hY, ht, hown, hth, hv2⟩, fun _ => hlt, by simp⟩
    · exact aNext_ok hY he hg ho (by simp) (pow_lt hv2 (by omega)) ht hown ⟨by omega, by omega⟩
  split
  next c =>
    have hlt := hl (.inr (.inl c))
    split
    · exact ⟨by simp, he, hw, ho, by simp, hv, .inr ⟨hY, ht, hown, hth, hv2⟩, fun _ => hlt, by simp⟩
    · exact ⟨by simp, he, hw, by simp, by simp, hv, .inl rfl, by simp, by simp⟩
  split
  next c =>
    have hlt := hl (.inr (.inr c))
    split
    · refine aNext_ok hY he hw ho (by simp only; omega) ?_ ht hown ⟨by omega, by omega⟩
      have e : (x.th + 1).toNat = x.th.toNat + 1 := by omega
      simp only [e]
      exact Nat.or_lt_two_pow (Nat.lt_of_lt_of_le hv2 (Nat.pow_le_pow_right (by omega) (by omega))) (Nat.pow_lt_pow_right (by omega) (by omega))
    · exact ⟨by simp, he, hw, ho, by simp, hv, .inr ⟨hY, ht, hown, hth, hv2⟩, fun _ => hlt, by simp⟩
  · refine ⟨by simp, he, hw, ?_, by simp, hv, .inl rfl, by simp, by simp⟩
    simp only
    split <;> simp
/-- The threads that were evicted. -/
def evL (n m : Nat) : List Int := ((List.range m).filter n.testBit).map Int.ofNat
theorem evL_succ (n m : Nat) : evL n (m + 1) = evL n m ++ (if n.testBit m = true then [(m : Int)] else []) := by
  unfold evL
  rw [List.range_succ, List.filter_append, List.map_append]
  by_cases h : n.testBit m = true <;> simp [h, Int.ofNat_eq_natCast]
theorem evL_len (n m : Nat) : (evL n m).length ≤ m := by
  unfold evL
  rw [List.length_map]
  exact Nat.le_trans (List.length_filter_le _ _) (by simp)
theorem evL_low {n m : Nat} (h : n < 2 ^ m) : ∀ j, evL n (m + j) = evL n m
  | 0 => rfl
  | j + 1 => by
    rw [show m + (j + 1) = (m + j) + 1 from rfl, evL_succ, evL_low h j, Nat.testBit_lt_two_pow (Nat.lt_of_lt_of_le h (Nat.pow_le_pow_right (by omega) (by omega)))]
    simp
theorem evL_same {n n' m : Nat} (h : ∀ i, i < m → n.testBit i = n'.testBit i) : evL n m = evL n' m := by
  unfold evL
  congr 1
  refine List.filter_congr fun i hi => h i (by simpa using hi)
theorem evL_or {n m : Nat} (h : n < 2 ^ m) (hm : m < 64) : evL (n ||| 2 ^ m) 64 = evL n 64 ++ [(m : Int)] := by
  have h1 : n ||| 2 ^ m < 2 ^ (m + 1) := Nat.or_lt_two_pow (Nat.lt_of_lt_of_le h (Nat.pow_le_pow_right (by omega) (by omega))) (Nat.pow_lt_pow_right (by omega) (by omega))
  have a := evL_low h1 (64 - (m + 1))
  have b := evL_low h (64 - m)
  rw [show m + 1 + (64 - (m + 1)) = 64 by omega] at a
  rw [show m + (64 - m) = 64 by omega] at b
  rw [a, b, evL_succ]
  have c : (n ||| 2 ^ m).testBit m = true := by simp [Nat.testBit_or, Nat.testBit_two_pow_self]
  rw [c, if_pos rfl]
  congr 1
  refine evL_same fun i hi => ?_
  rw [Nat.testBit_or, Nat.testBit_two_pow_of_ne (by omega)]
  simp
theorem evL_zero (m : Nat) : evL 0 m = [] := by
  unfold evL
  simp
theorem evL_took {own t p : Int} {Y : Prop} {x : Av} {g : Int} (h : AvOk own t Y x) : evL (aTook own t p x g).ev 64 = evL x.ev 64 ++ (if x.k = 4 ∧ g = 1 then [x.th] else []) := by
  obtain ⟨hk, he, hw, ho, hj, hv, hz, hl, h1⟩ := h
  by_cases c : x.k = 4 ∧ g = 1
  · rw [if_pos c]
    obtain ⟨c4, c1⟩ := c
    obtain ⟨hY, ht, hown, hth, hv2⟩ := hz.resolve_left (by omega)
    have hlt := hl (.inr (.inr c4))
    have e : (aTook own t p x g).ev = x.ev ||| 2 ^ x.th.toNat := by
      unfold aTook aNext
      simp [c4, c1]
    rw [e, evL_or hv2 (by omega), Int.toNat_of_nonneg hth.1]
  · rw [if_neg c]
    have e : (aTook own t p x g).ev = x.ev := by
      unfold aTook aNext
      split
      · rfl
      split
      · rfl
      split
      · split <;> rfl
      split
      · split <;> rfl
      split
      · next c4 =>
        rw [if_neg (fun h => c ⟨c4, h⟩)]
      · rfl
    simp [e]
def aAsk (x : Av) : Int × Int × Int × Int :=
  if x.k = 1 then (1, 0, 0, 0)
  else if x.k = 2 then (1, 3 + x.th, 0, 0)
  else if x.k = 3 then (1, 1, 0, 0)
  else if x.k = 4 then (3, 3 + x.th, x.wd, x.wd - x.wd % 4 + 2)
  else if x.k = 5 then (3, 0, x.ep, (x.ep + 1) % 18446744073709551616)
  else (0, 0, 0, 0)
def aAll (own t p : Int) (x : Av) (l : List Int) : Nat → Av
  | 0 => x
  | k + 1 => aTook own t p (aAll own t p x l k) (l.getD k 0)
theorem aAll_ok {own t p : Int} {Y : Prop} {x : Av} {l : List Int} (h : AvOk own t Y x) (hl : ∀ y ∈ l, W64 y) : ∀ k, AvOk own t Y (aAll own t p x l k)
  | 0 => h
  | k + 1 => by
    refine aTook_ok (aAll_ok h hl k) ?_
    by_cases hk : k < l.length
    · rw [show l.getD k 0 = l[k] by simp [List.getD, hk]]
      exact hl _ (List.getElem_mem hk)
    · rw [show l.getD k 0 = 0 by simp [List.getD, hk]]
      exact ⟨by omega, by omega⟩
end Go.Proofs.YtgcdmgpcfdfomaaDoor
