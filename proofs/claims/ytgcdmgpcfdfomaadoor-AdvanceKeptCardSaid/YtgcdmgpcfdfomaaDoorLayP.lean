/-
  Layout, in plain numbers: which word stands where.
-/
import Derived.Test.YtgcdmgpcfdfomaaDoorPlain
namespace Go.Proofs.YtgcdmgpcfdfomaaDoor

/-- A configuration that may be. -/
def cfgOk (s t f l p : Int) : Bool := decide (1 ≤ s ∧ s ≤ 1000 ∧ 1 ≤ t ∧ t ≤ 64 ∧ 4 ≤ f ∧ f ≤ 64 ∧ 1 ≤ l ∧ l ≤ 64 ∧ 1 ≤ p ∧ p ≤ 1048576)
theorem cfgOk_iff {s t f l p : Int} : cfgOk s t f l p = true ↔ (1 ≤ s ∧ s ≤ 1000 ∧ 1 ≤ t ∧ t ≤ 64 ∧ 4 ≤ f ∧ f ≤ 64 ∧ 1 ≤ l ∧ l ≤ 64 ∧ 1 ≤ p ∧ p ≤ 1048576) := by unfold cfgOk; simp

/-- How many words there are. -/
def laySize (s t f : Int) : Int := 3 + 3 * t + (s + 1) * (3 + 2 * f)
/-- A word's place. -/
def plc (s t f a : Int) : Int × Int × Int :=
  if a < 0 ∨ laySize s t f ≤ a then (0, 0, 0)
  else if a < 3 then (a + 1, 0, 0)
  else if a < 3 + t then (4, a - 3, 0)
  else if a < 3 + 3 * t then (5, (a - 3 - t) / 2, (a - 3 - t) % 2)
  else if (a - (3 + 3 * t)) % (3 + 2 * f) < 3 then (6 + (a - (3 + 3 * t)) % (3 + 2 * f), (a - (3 + 3 * t)) / (3 + 2 * f), 0)
  else if (a - (3 + 3 * t)) % (3 + 2 * f) < 3 + f then (9, (a - (3 + 3 * t)) / (3 + 2 * f), (a - (3 + 3 * t)) % (3 + 2 * f) - 3)
  else (10, (a - (3 + 3 * t)) / (3 + 2 * f), (a - (3 + 3 * t)) % (3 + 2 * f) - 3 - f)

/-- A node's word: its number within the node, and how many such there are; the number of a place's word. -/
def nodAt (f k : Int) : Int := if k = 6 then 0 else if k = 7 then 1 else if k = 8 then 2 else if k = 9 then 3 else 3 + f
def nodMany (f k : Int) : Int := if k = 9 ∨ k = 10 then f else 1
def nod (s t f k o i : Int) : Int :=
  if k < 6 ∨ 10 < k ∨ o < 0 ∨ s + 1 ≤ o ∨ i < 0 ∨ nodMany f k ≤ i then -1 else 3 + 3 * t + o * (3 + 2 * f) + nodAt f k + i
def atp (s t f k o i : Int) : Int :=
  if 1 ≤ k ∧ k ≤ 3 ∧ o = 0 ∧ i = 0 then k - 1
  else if k = 4 ∧ i = 0 ∧ 0 ≤ o ∧ o < t then 3 + o
  else if k = 5 ∧ 0 ≤ i ∧ i < 2 ∧ 0 ≤ o ∧ o < t then 3 + t + 2 * o + i
  else nod s t f k o i

theorem size_pos {s t f : Int} (hs : 1 ≤ s ∧ s ≤ 1000) (ht : 1 ≤ t ∧ t ≤ 64) (hf : 4 ≤ f ∧ f ≤ 64) : 3 + 3 * t < laySize s t f ∧ laySize s t f ≤ 131326 := by
  unfold laySize
  have h1 : 0 < (s + 1) * (3 + 2 * f) := Int.mul_pos (by omega) (by omega)
  have h2 : (s + 1) * (3 + 2 * f) ≤ 1001 * 131 := Int.mul_le_mul (by omega) (by omega) (by omega) (by omega)
  omega

/-- The parts of a number below a product. -/
theorem div_parts {d W n : Int} (hW : 0 < W) (h0 : 0 ≤ d) (h1 : d < n * W) : 0 ≤ d / W ∧ d / W < n ∧ 0 ≤ d % W ∧ d % W < W ∧ d = d / W * W + d % W := by
  have e := Int.mul_ediv_add_emod d W
  exact ⟨Int.ediv_nonneg h0 (by omega), Int.ediv_lt_of_lt_mul hW h1, Int.emod_nonneg _ (by omega), Int.emod_lt_of_pos _ hW, by rw [Int.mul_comm]; exact e.symm⟩
theorem div_back {o W j : Int} (h0 : 0 ≤ j) (h1 : j < W) : (o * W + j) / W = o ∧ (o * W + j) % W = j := by
  rw [Int.add_comm, Int.add_mul_ediv_right _ _ (by omega), Int.add_mul_emod_self_right]
  rw [Int.ediv_eq_zero_of_lt h0 h1, Int.emod_eq_of_lt h0 h1]
  exact ⟨by omega, rfl⟩

/-- Each word's place leads back to it. -/
theorem atp_plc {s t f a : Int} (hs : 1 ≤ s ∧ s ≤ 1000) (ht : 1 ≤ t ∧ t ≤ 64) (hf : 4 ≤ f ∧ f ≤ 64) :
    atp s t f (plc s t f a).1 (plc s t f a).2.1 (plc s t f a).2.2 = if a < 0 ∨ laySize s t f ≤ a then -1 else a := by
  have hz := size_pos hs ht hf
  unfold plc
  by_cases c0 : a < 0 ∨ laySize s t f ≤ a
  · rw [if_pos c0, if_pos c0]
    simp [atp, nod]
  rw [if_neg c0, if_neg c0]
  by_cases c1 : a < 3
  · rw [if_pos c1]
    unfold atp
    rw [if_pos (by simp; omega)]
    simp
  rw [if_neg c1]
  by_cases c2 : a < 3 + t
  · rw [if_pos c2]
    unfold atp
    rw [if_neg (by simp), if_pos (by simp; omega)]
    simp
    omega
  rw [if_neg c2]
  by_cases c3 : a < 3 + 3 * t
  · rw [if_pos c3]
    unfold atp
    rw [if_neg (by simp), if_neg (by simp), if_pos (by simp; omega)]
    simp
    omega
  rw [if_neg c3]
  have hd := div_parts (d := a - (3 + 3 * t)) (W := 3 + 2 * f) (n := s + 1) (by omega) (by omega) (by unfold laySize at c0; omega)
  generalize (a - (3 + 3 * t)) / (3 + 2 * f) = o at *
  generalize (a - (3 + 3 * t)) % (3 + 2 * f) = j at *
  obtain ⟨d1, d2, d3, d4, d5⟩ := hd
  by_cases c4 : j < 3
  · rw [if_pos c4]
    have hj : j = 0 ∨ j = 1 ∨ j = 2 := by omega
    unfold atp nod nodMany nodAt
    rw [if_neg (by simp; omega), if_neg (by simp; omega), if_neg (by simp; omega)]
    rcases hj with rfl | rfl | rfl
    all_goals
      simp
      rw [if_neg (by omega)]
      omega
  rw [if_neg c4]
  by_cases c5 : j < 3 + f
  · rw [if_pos c5]
    unfold atp nod nodMany nodAt
    simp
    rw [if_neg (by omega)]
    omega
  · rw [if_neg c5]
    unfold atp nod nodMany nodAt
    simp
    rw [if_neg (by omega)]
    omega
end Go.Proofs.YtgcdmgpcfdfomaaDoor
