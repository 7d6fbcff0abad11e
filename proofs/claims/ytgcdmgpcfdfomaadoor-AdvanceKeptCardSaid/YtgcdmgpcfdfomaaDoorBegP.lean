/-
  The words of a machine that begins, in plain Lean.
-/
import Derived.Test.YtgcdmgpcfdfomaaDoorRpos
import Derived.Test.YtgcdmgpcfdfomaaDoorMemoC
namespace Go.Proofs.YtgcdmgpcfdfomaaDoor
open Go.RowKit

/-- The slot of a word, and its place within it. -/
def oOf (t f j : Int) : Int := (j - (3 + 3 * t)) / (3 + 2 * f)
def rOf (t f j : Int) : Int := (j - (3 + 3 * t)) % (3 + 2 * f)
theorem at_or {t f j k c : Int} (hc : 0 ≤ c) (hc2 : c < 3 + 2 * f) : j = nB t f k + c ↔ oOf t f j = k ∧ rOf t f j = c := by
  unfold nB oOf rOf
  constructor
  · rintro rfl
    have e : 3 + 3 * t + k * (3 + 2 * f) + c - (3 + 3 * t) = k * (3 + 2 * f) + c := by omega
    rw [e]
    exact div_back hc hc2
  · rintro ⟨h1, h2⟩
    have e := Int.mul_ediv_add_emod (j - (3 + 3 * t)) (3 + 2 * f)
    rw [h1, h2, Int.mul_comm] at e
    omega
theorem r_bd {t f j : Int} (hf : 4 ≤ f) : 0 ≤ rOf t f j ∧ rOf t f j < 3 + 2 * f := ⟨Int.emod_nonneg _ (by omega), Int.emod_lt_of_pos _ (by omega)⟩
def bOR (s f k o r : Int) : Int :=
  if o = 0 ∧ r = 1 then 3 else if o = 0 ∧ r = 3 + f then 65537 else if o = 1 ∧ r = 0 then 1099511627776
  else if 2 ≤ o ∧ o < k ∧ r = 0 then 2 else if 2 ≤ o ∧ o < k ∧ o < s ∧ r = 2 then o + 1 else 0
/-- The slots below k are laid. -/
def bK (s t f k j : Int) : Int := bOR s f k (oOf t f j) (rOf t f j)
def BegK (s t f k : Int) (ws : List Int) : Prop := ∀ j : Nat, j < ws.length → ws.getD j 0 = bK s t f k j
theorem getD_set (l : List Int) (p j : Nat) (x : Int) (hp : p < l.length) : (l.set p x).getD j 0 = if j = p then x else l.getD j 0 := by
  rw [List.getD_eq_getElem?_getD, List.getElem?_set, List.getD_eq_getElem?_getD]
  by_cases h : p = j
  · subst h
    rw [if_pos rfl, if_pos hp, if_pos rfl]
    rfl
  · rw [if_neg h, if_neg (fun e => h e.symm)]
theorem getD_zs (n j : Nat) : (zs n).getD j 0 = 0 := by
  unfold zs
  rw [List.getD_eq_getElem?_getD, List.getElem?_replicate]
  split <;> rfl
theorem zs_len (n : Nat) : (zs n).length = n := by simp [zs]
theorem bK_step {s t f k j : Int} (hf : 4 ≤ f) (hk : 2 ≤ k) : bK s t f (k + 1) j = if j = nB t f k then 2 else if k < s ∧ j = nB t f k + 2 then k + 1 else bK s t f k j := by
  have h1 := at_or (t := t) (f := f) (j := j) (k := k) (c := 0) (by omega) (by omega)
  have h2 := at_or (t := t) (f := f) (j := j) (k := k) (c := 2) (by omega) (by omega)
  rw [Int.add_zero] at h1
  unfold bK bOR
  simp only [h1, h2]
  generalize oOf t f j = o
  generalize rOf t f j = r
  repeat' split
  all_goals first | rfl | omega
/-- All words. -/
def begAt (s t f j : Int) : Int := if j = 2 then (if 2 ≤ s then 2 else 0) else bK s t f (s + 1) j
def begL (s t f : Int) : List Int := (List.range (laySize s t f).toNat).map fun (j : Nat) => begAt s t f (j : Int)
theorem begL_len (s t f : Int) : (begL s t f).length = (laySize s t f).toNat := by simp [begL]
theorem begL_at {s t f : Int} {j : Nat} (h : j < (begL s t f).length) : (begL s t f).getD j 0 = begAt s t f j := by
  rw [List.getD_eq_getElem?_getD, List.getElem?_eq_getElem h]
  simp [begL]
theorem begL_of {s t f : Int} {ws : List Int} (hl : ws.length = (laySize s t f).toNat) (h : ∀ j : Nat, j < ws.length → ws.getD j 0 = begAt s t f j) : ws = begL s t f := by
  apply List.ext_getElem (by rw [hl, begL_len])
  intro j h1 h2
  have e1 := h j h1
  have e2 := begL_at h2
  rw [List.getD_eq_getElem?_getD, List.getElem?_eq_getElem h1] at e1
  rw [List.getD_eq_getElem?_getD, List.getElem?_eq_getElem h2] at e2
  exact e1.trans e2.symm
theorem bOR_bd {s f k o r : Int} (hs : s ≤ 1000) : 0 ≤ bOR s f k o r ∧ bOR s f k o r ≤ 1099511627776 := by
  unfold bOR
  repeat' split
  all_goals omega
theorem begL_w64 {s t f : Int} (hs : s ≤ 1000) : AllW64 (begL s t f) := by
  intro x hx
  simp only [begL, List.mem_map] at hx
  obtain ⟨j, _, rfl⟩ := hx
  unfold begAt bK
  have := bOR_bd (s := s) (f := f) (k := s + 1) (o := oOf t f j) (r := rOf t f j) hs
  constructor
  · repeat' split
    all_goals omega
  · repeat' split
    all_goals omega
end Go.Proofs.YtgcdmgpcfdfomaaDoor
