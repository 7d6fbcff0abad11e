/-
  The Go function LayoutAsks.
-/
import Derived.Test.YtpkocgcagemnbaaDoorLayG
namespace Go.Proofs.YtpkocgcagemnbaaDoor
open Go.RowKit
attribute [local go_sem] past_cell past_cell_add

/-- The word of a place leads back to the place; where there is none, the place is none. -/
theorem plc_atp {s t f k o i : Int} (hs : 1 ≤ s ∧ s ≤ 1000) (ht : 1 ≤ t ∧ t ≤ 64) (hf : 4 ≤ f ∧ f ≤ 64) (h : 0 ≤ atp s t f k o i) : plc s t f (atp s t f k o i) = (k, o, i) := by
  have hz := size_pos hs ht hf
  unfold atp at h ⊢
  by_cases c1 : 1 ≤ k ∧ k ≤ 3 ∧ o = 0 ∧ i = 0
  · rw [if_pos c1] at h ⊢
    unfold plc
    rw [if_neg (by omega), if_pos (by omega)]
    obtain ⟨_, _, rfl, rfl⟩ := c1
    rw [show k - 1 + 1 = k by omega]
  rw [if_neg c1] at h ⊢
  by_cases c2 : k = 4 ∧ i = 0 ∧ 0 ≤ o ∧ o < t
  · rw [if_pos c2] at h ⊢
    unfold plc
    rw [if_neg (by omega), if_neg (by omega), if_pos (by omega)]
    obtain ⟨rfl, rfl, _, _⟩ := c2
    rw [show 3 + o - 3 = o by omega]
  rw [if_neg c2] at h ⊢
  by_cases c3 : k = 5 ∧ 0 ≤ i ∧ i < 2 ∧ 0 ≤ o ∧ o < t
  · rw [if_pos c3] at h ⊢
    unfold plc
    rw [if_neg (by omega), if_neg (by omega), if_neg (by omega), if_pos (by omega)]
    obtain ⟨rfl, _, _, _, _⟩ := c3
    rw [show (3 + t + 2 * o + i - 3 - t) / 2 = o by omega, show (3 + t + 2 * o + i - 3 - t) % 2 = i by omega]
  rw [if_neg c3] at h ⊢
  unfold nod at h ⊢
  by_cases c4 : k < 6 ∨ 10 < k ∨ o < 0 ∨ s + 1 ≤ o ∨ i < 0 ∨ nodMany f k ≤ i
  · rw [if_pos c4] at h
    omega
  rw [if_neg c4]
  have hk : k = 6 ∨ k = 7 ∨ k = 8 ∨ k = 9 ∨ k = 10 := by omega
  have hm : 0 ≤ nodAt f k + i ∧ nodAt f k + i < 3 + 2 * f := by
    unfold nodAt nodMany at *
    rcases hk with rfl | rfl | rfl | rfl | rfl <;> simp at c4 ⊢ <;> omega
  have hd := div_back (o := o) hm.1 hm.2
  have hlt : o * (3 + 2 * f) + (nodAt f k + i) < (s + 1) * (3 + 2 * f) := by
    have h1 : (o + 1) * (3 + 2 * f) ≤ (s + 1) * (3 + 2 * f) := Int.mul_le_mul_of_nonneg_right (by omega) (by omega)
    rw [Int.add_mul] at h1
    omega
  have h0 : 0 ≤ o * (3 + 2 * f) := Int.mul_nonneg (by omega) (by omega)
  have e : 3 + 3 * t + o * (3 + 2 * f) + nodAt f k + i - (3 + 3 * t) = o * (3 + 2 * f) + (nodAt f k + i) := by omega
  unfold plc
  rw [if_neg (by unfold laySize; omega), if_neg (by omega), if_neg (by omega), if_neg (by omega), e, hd.1, hd.2]
  unfold nodAt nodMany at *
  rcases hk with rfl | rfl | rfl | rfl | rfl <;> simp at c4 ⊢
  · obtain rfl : i = 0 := by omega
    simp
  · obtain rfl : i = 0 := by omega
    simp
  · obtain rfl : i = 0 := by omega
    simp
  · rw [if_neg (by omega), if_pos (by omega)]
    simp
    omega
  · rw [if_neg (by omega), if_neg (by omega)]
    simp
    omega
theorem atp_ge {s t f k o i : Int} (ht : 1 ≤ t ∧ t ≤ 64) (hf : 4 ≤ f ∧ f ≤ 64) (h : atp s t f k o i < 0) : atp s t f k o i = -1 := by
  unfold atp at h ⊢
  by_cases c1 : 1 ≤ k ∧ k ≤ 3 ∧ o = 0 ∧ i = 0
  · rw [if_pos c1] at h ⊢
    omega
  rw [if_neg c1] at h ⊢
  by_cases c2 : k = 4 ∧ i = 0 ∧ 0 ≤ o ∧ o < t
  · rw [if_pos c2] at h ⊢
    omega
  rw [if_neg c2] at h ⊢
  by_cases c3 : k = 5 ∧ 0 ≤ i ∧ i < 2 ∧ 0 ≤ o ∧ o < t
  · rw [if_pos c3] at h ⊢
    omega
  rw [if_neg c3] at h ⊢
  unfold nod at h ⊢
  by_cases c4 : k < 6 ∨ 10 < k ∨ o < 0 ∨ s + 1 ≤ o ∨ i < 0 ∨ nodMany f k ≤ i
  · rw [if_pos c4]
  rw [if_neg c4] at h
  have h0 : 0 ≤ o * (3 + 2 * f) := Int.mul_nonneg (by omega) (by omega)
  have hm : 0 ≤ nodAt f k := by unfold nodAt; repeat' split; all_goals omega
  omega
/-- Why a place is none. -/
theorem atp_bad {s t f k o i : Int} (ht : 1 ≤ t ∧ t ≤ 64) (hf : 4 ≤ f ∧ f ≤ 64) (h : atp s t f k o i < 0) :
    k < 1 ∨ 10 < k ∨ ((k = 1 ∨ k = 2 ∨ k = 3) ∧ (o ≠ 0 ∨ (o = 0 ∧ i ≠ 0))) ∨ (k = 4 ∧ (o < 0 ∨ (0 ≤ o ∧ t ≤ o) ∨ (0 ≤ o ∧ o < t ∧ i ≠ 0))) ∨
    (k = 5 ∧ (o < 0 ∨ (0 ≤ o ∧ t ≤ o) ∨ (0 ≤ o ∧ o < t ∧ i < 0) ∨ (0 ≤ o ∧ o < t ∧ 0 ≤ i ∧ 1 < i))) ∨
    ((k = 6 ∨ k = 7 ∨ k = 8 ∨ k = 9 ∨ k = 10) ∧ (o < 0 ∨ (0 ≤ o ∧ s < o))) ∨ ((k = 6 ∨ k = 7 ∨ k = 8) ∧ 0 ≤ o ∧ o ≤ s ∧ i ≠ 0) ∨
    ((k = 9 ∨ k = 10) ∧ 0 ≤ o ∧ o ≤ s ∧ (i < 0 ∨ (0 ≤ i ∧ f ≤ i))) := by
  unfold atp at h
  by_cases c1 : 1 ≤ k ∧ k ≤ 3 ∧ o = 0 ∧ i = 0
  · rw [if_pos c1] at h
    omega
  rw [if_neg c1] at h
  by_cases c2 : k = 4 ∧ i = 0 ∧ 0 ≤ o ∧ o < t
  · rw [if_pos c2] at h
    omega
  rw [if_neg c2] at h
  by_cases c3 : k = 5 ∧ 0 ≤ i ∧ i < 2 ∧ 0 ≤ o ∧ o < t
  · rw [if_pos c3] at h
    omega
  rw [if_neg c3] at h
  unfold nod at h
  by_cases c4 : k < 6 ∨ 10 < k ∨ o < 0 ∨ s + 1 ≤ o ∨ i < 0 ∨ nodMany f k ≤ i
  · unfold nodMany at c4
    split at c4
    · omega
    · omega
  · rw [if_neg c4] at h
    have h0 : 0 ≤ o * (3 + 2 * f) := Int.mul_nonneg (by omega) (by omega)
    have hm : 0 ≤ nodAt f k := by unfold nodAt; repeat' split; all_goals omega
    omega
end Go.Proofs.YtpkocgcagemnbaaDoor
