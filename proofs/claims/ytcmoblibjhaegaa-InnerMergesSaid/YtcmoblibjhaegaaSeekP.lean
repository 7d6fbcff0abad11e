/-
  Searches among keys that rise: the plain law.
-/
import Derived.Test.YtcmoblibjhaegaaSeekC
namespace Go.Proofs.Ytcmoblibjhaegaa
open Go.RowKit

def SortedTo (l : List Int) (k : Nat) : Prop := ∀ i j, i ≤ j → j < k → l.getD i 0 ≤ l.getD j 0

theorem spass_mono {kind key a b : Int} (h : spass kind key b = true) (hab : a ≤ b) : spass kind key a = true := by
  unfold spass at *
  split at h <;> simp_all <;> omega

theorem filter_prefix {p : Int → Bool} : ∀ {l : List Int} {m : Nat}, m ≤ l.length → (∀ i, i < m → p (l.getD i 0) = true) → (∀ i, m ≤ i → i < l.length → p (l.getD i 0) = false) → (l.filter p).length = m
  | [], m, hm, _, _ => by simp at hm; simp [hm]
  | x :: l, 0, _, _, h2 => by
    have h0 : p x = false := by simpa using h2 0 (by omega) (by simp)
    rw [List.filter_cons_of_neg (by simp [h0])]
    exact filter_prefix (m := 0) (by omega) (fun i hi => by omega) (fun i _ hi => by simpa using h2 (i + 1) (by omega) (by simpa using hi))
  | x :: l, m + 1, hm, h1, h2 => by
    have h0 : p x = true := by simpa using h1 0 (by omega)
    rw [List.filter_cons_of_pos h0, List.length_cons]
    congr 1
    exact filter_prefix (m := m) (by simpa using hm) (fun i hi => by simpa using h1 (i + 1) (by omega)) (fun i hi hl => by simpa using h2 (i + 1) (by omega) (by simpa using hl))

theorem sgo_count {kind key : Int} {l : List Int} (hs : SortedTo l l.length) : ∀ (f : Nat) (lo hi : Int), SOk lo hi → hi ≤ l.length → (hi - lo).toNat ≤ f →
    (∀ i, i < lo.toNat → spass kind key (l.getD i 0) = true) → (∀ i, hi.toNat ≤ i → i < l.length → spass kind key (l.getD i 0) = false) → sgo kind key l f lo hi = (l.filter (spass kind key)).length
  | f, lo, hi, hok, hl, hf, h1, h2 => by
    obtain ⟨a1, a2, a3⟩ := hok
    by_cases c : hi ≤ lo
    · have e : sgo kind key l f lo hi = lo := by cases f with
        | zero => rfl
        | succ f => exact if_pos c
      rw [e, filter_prefix (m := lo.toNat) (by omega) h1 (fun i hi' => h2 i (by omega))]
      omega
    · cases f with
      | zero => omega
      | succ f =>
        show (if hi ≤ lo then lo else _) = _
        rw [if_neg c]
        have hless := s_less (kind := kind) (key := key) (k := l.getD (lo + (hi - lo) / 2).toNat 0) ⟨a1, a2, a3⟩ (by omega)
        refine sgo_count hs f _ _ (SOk.next ⟨a1, a2, a3⟩) (by omega) (by omega) (fun i hi' => ?_) (fun i hi' hil => ?_)
        · unfold slo at hi'
          rw [if_neg c] at hi'
          by_cases d : spass kind key (l.getD (lo + (hi - lo) / 2).toNat 0) = true
          · rw [if_pos d] at hi'
            exact spass_mono d (hs i _ (by omega) (by omega))
          · rw [if_neg d] at hi'
            exact h1 i hi'
        · unfold shi at hi'
          rw [if_neg c] at hi'
          by_cases d : spass kind key (l.getD (lo + (hi - lo) / 2).toNat 0) = true
          · rw [if_pos d] at hi'
            exact h2 i hi' hil
          · rw [if_neg d] at hi'
            rcases hb : spass kind key (l.getD i 0) with _ | _
            · rfl
            · exact absurd (spass_mono hb (hs _ i (by omega) hil)) d

theorem sfind_count {kind key : Int} {l : List Int} (hs : SortedTo l l.length) (hl : l.length ≤ 1000) : sfind kind key l = if kind = 1 ∨ kind = 2 then ((l.filter (spass kind key)).length : Int) else 0 := by
  unfold sfind
  by_cases c : kind = 1 ∨ kind = 2
  · rw [if_pos c]
    have e : snew kind l.length = l.length := if_neg (by omega)
    rw [e]
    exact sgo_count hs _ _ _ ⟨by omega, by omega, by omega⟩ (by omega) (by omega) (fun i hi => by simp at hi) (fun i h1 h2 => by omega)
  · rw [if_neg c]
    have e : snew kind l.length = 0 := if_pos (by omega)
    rw [e]
    cases l.length <;> rfl
end Go.Proofs.Ytcmoblibjhaegaa
