/-
  How many bits a word has.
-/
import Derived.Test.YtegephdgboaedaaPlain
namespace Go.Proofs.Ytegephdgboaedaa

/-- How many bits a word has. -/
def wid (x : Nat) : Nat := if x = 0 then 0 else Nat.log2 x + 1
theorem wid_of {x k : Nat} (h1 : x < 2 ^ k) (h2 : k = 0 ∨ 2 ^ (k - 1) ≤ x) : wid x = k := by
  unfold wid
  by_cases hx : x = 0
  · rw [if_pos hx]
    rcases h2 with h2 | h2
    · exact h2.symm
    · have := Nat.two_pow_pos (k - 1); omega
  · rw [if_neg hx]
    have a := (Nat.log2_lt hx).2 h1
    rcases h2 with h2 | h2
    · subst h2; simp at h1; omega
    · have b := (Nat.le_log2 hx).2 h2
      omega
theorem wid_mod_succ (x k : Nat) : wid (x % 2 ^ (k + 1)) = if x / 2 ^ k % 2 = 1 then k + 1 else wid (x % 2 ^ k) := by
  have hp := Nat.two_pow_pos k
  have e : x % 2 ^ (k + 1) = x % 2 ^ k + 2 ^ k * (x / 2 ^ k % 2) := by
    rw [Nat.pow_succ, Nat.mod_mul]
  have hl := Nat.mod_lt x hp
  rcases Nat.mod_two_eq_zero_or_one (x / 2 ^ k) with h | h
  · rw [e, h, if_neg (by omega)]; simp
  · rw [if_pos h]
    apply wid_of
    · exact Nat.mod_lt _ (Nat.two_pow_pos _)
    · right
      rw [e, h]
      simp
theorem wid_le {x k : Nat} (h : x < 2 ^ k) : wid x ≤ k := by
  unfold wid
  by_cases hx : x = 0
  · rw [if_pos hx]; omega
  · rw [if_neg hx]
    have a := (Nat.log2_lt hx).2 h
    omega

end Go.Proofs.Ytegephdgboaedaa
