/-
  Leaves, plainly: where a key stands among keys that rise.
-/
import Derived.Test.YtcmoblibjhaegaaLeaf
import Derived.Test.YtcmoblibjhaegaaSeekP
namespace Go.Proofs.Ytcmoblibjhaegaa
open Go.RowKit

def lowN (key : Int) (l : List Int) : Nat := (l.filter fun k => decide (k < key)).length
def hasB (key : Int) (l : List Int) : Bool := l.any fun k => k == key
theorem lowN_le (key : Int) (l : List Int) : lowN key l ≤ l.length := List.length_filter_le _ _

theorem rise_lt {l : List Int} {m : Nat} (h : RiseTo l m) : ∀ (d i : Nat), i + d + 1 < m → l.getD i 0 < l.getD (i + d + 1) 0
  | 0, i, hi => h i hi
  | d + 1, i, hi => by
    have h1 := rise_lt h d i (by omega)
    have h2 := h (i + d + 1) (by omega)
    rw [show i + (d + 1) + 1 = i + d + 1 + 1 by omega]
    omega
theorem rise_lt' {l : List Int} {m i j : Nat} (h : RiseTo l m) (hij : i < j) (hj : j < m) : l.getD i 0 < l.getD j 0 := by
  have := rise_lt h (j - i - 1) i (by omega)
  rwa [show i + (j - i - 1) + 1 = j by omega] at this
theorem sorted_of_rise {l : List Int} {m : Nat} (h : RiseTo l m) : SortedTo l m := by
  intro i j hij hj
  rcases Nat.lt_or_ge i j with hl | hl
  · exact Int.le_of_lt (rise_lt' h hl hj)
  · obtain rfl : i = j := by omega
    exact Int.le_refl _
theorem find_count {key : Int} {l : List Int} (h : riseB l = true) (hl : l.length ≤ 1000) : sfind 1 key l = lowN key l := by
  rw [sfind_count (sorted_of_rise ((riseB_iff l).1 h)) hl, if_pos (.inl rfl)]
  congr 2
/-- Keys ahead of the place are below, the others are not. -/
theorem low_spec {key : Int} {l : List Int} (h : riseB l = true) : (∀ i, i < lowN key l → l.getD i 0 < key) ∧ (∀ i, lowN key l ≤ i → i < l.length → key ≤ l.getD i 0) := by
  have hr := (riseB_iff l).1 h
  have hs := sorted_of_rise hr
  -- the number of keys below is some place m with the two properties
  have hex : ∃ m, m ≤ l.length ∧ (∀ i, i < m → l.getD i 0 < key) ∧ (∀ i, m ≤ i → i < l.length → key ≤ l.getD i 0) := by
    clear hr h
    suffices H : ∀ n, n ≤ l.length → (∀ i, n ≤ i → i < l.length → key ≤ l.getD i 0) → ∃ m, m ≤ l.length ∧ (∀ i, i < m → l.getD i 0 < key) ∧ (∀ i, m ≤ i → i < l.length → key ≤ l.getD i 0) from
      H l.length (Nat.le_refl _) (fun i h1 h2 => by omega)
    intro n
    induction n with
    | zero => exact fun _ h => ⟨0, by omega, fun i hi => by omega, h⟩
    | succ n ih =>
      intro hn h
      by_cases c : l.getD n 0 < key
      · exact ⟨n + 1, hn, fun i hi => by have := hs i n (by omega) (by omega); omega, h⟩
      · refine ih (by omega) fun i h1 h2 => ?_
        rcases Nat.eq_or_lt_of_le h1 with rfl | h3
        · omega
        · exact h i h3 h2
  obtain ⟨m, hm, h1, h2⟩ := hex
  have e : lowN key l = m := filter_prefix hm (fun i hi => by simpa using h1 i hi) (fun i h3 h4 => by simpa using h2 i h3 h4)
  rw [e]
  exact ⟨h1, h2⟩
theorem has_iff {key : Int} {l : List Int} (h : riseB l = true) : hasB key l = (decide (lowN key l < l.length) && (l.getD (lowN key l) 0 == key)) := by
  obtain ⟨h1, h2⟩ := low_spec (key := key) h
  have hr := (riseB_iff l).1 h
  rw [Bool.eq_iff_iff]
  unfold hasB
  simp only [List.any_eq_true, beq_iff_eq, Bool.and_eq_true, decide_eq_true_eq]
  constructor
  · rintro ⟨x, hx, rfl⟩
    obtain ⟨j, hj, rfl⟩ := List.getElem_of_mem hx
    have ej : l.getD j 0 = l[j] := by simp [List.getD, hj]
    have hge : lowN l[j] l ≤ j := by
      rcases Nat.lt_or_ge j (lowN l[j] l) with c | c
      · have := h1 j c
        omega
      · exact c
    have hlt : lowN l[j] l < l.length := by omega
    refine ⟨hlt, ?_⟩
    have h3 := h2 (lowN l[j] l) (Nat.le_refl _) hlt
    rcases Nat.eq_or_lt_of_le hge with c | c
    · rw [c]
      exact ej
    · have := rise_lt' hr c hj
      omega
  · rintro ⟨hlt, he⟩
    refine ⟨l[lowN key l], List.getElem_mem hlt, ?_⟩
    simpa [List.getD, hlt] using he
end Go.Proofs.Ytcmoblibjhaegaa
