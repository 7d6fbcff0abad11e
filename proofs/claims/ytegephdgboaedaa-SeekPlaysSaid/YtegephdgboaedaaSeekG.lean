/-
  SeekPlays: what any search asks for, and where it comes.
-/
import Derived.Test.YtegephdgboaedaaSeekF
import Derived.Test.YtegephdgboaedaaPast
namespace Go.Proofs.Ytegephdgboaedaa
open Go.RowKit

theorem s_half {kind lo hi key k : Int} (h : SOk lo hi) : (shi kind lo hi key k - slo kind lo hi key k) * 2 ≤ hi - lo ∧ shi kind lo hi key k ≤ hi := by
  obtain ⟨h1, h2, h3⟩ := h
  unfold slo shi
  by_cases c : hi ≤ lo
  · rw [if_pos c, if_pos c]; omega
  · rw [if_neg c, if_neg c]
    by_cases d : spass kind key k = true
    · rw [if_pos d, if_pos d]; omega
    · rw [if_neg d, if_neg d]; omega

def SInv (kind h0 : Int) (k : Nat) (p : Int × Int) : Prop := (kind = 1 ∨ kind = 2 ∨ p.2 ≤ p.1) ∧ p.2 ≤ h0 ∧ (p.2 - p.1) * 2 ^ k ≤ h0

theorem sst_inv {kind key h0 : Int} (h : SOk 0 h0) (hk : kind = 1 ∨ kind = 2 ∨ h0 ≤ 0) (l : List Int) : ∀ k, k ≤ l.length → SInv kind h0 k (sst kind key (0, h0) (l.take k)) := by
  intro k
  induction k with
  | zero => intro _; exact ⟨hk, Int.le_refl _, by show (h0 - 0) * 1 ≤ h0; omega⟩
  | succ k ih =>
    intro hl
    obtain ⟨i1, i2, i3⟩ := ih (by omega)
    have ok : SOk (sst kind key (0, h0) (l.take k)).1 (sst kind key (0, h0) (l.take k)).2 := sst_ok h
    rw [sst_take kind key _ l (show k < l.length by omega)]
    generalize sst kind key (0, h0) (l.take k) = p at *
    obtain ⟨s1, s2⟩ := s_half (kind := kind) (key := key) (k := l[k]) ok
    refine ⟨?_, Int.le_trans s2 i2, ?_⟩
    · rcases i1 with c | c | c
      · exact .inl c
      · exact .inr (.inl c)
      · refine .inr (.inr ?_)
        show shi kind p.1 p.2 key l[k] ≤ slo kind p.1 p.2 key l[k]
        unfold slo shi
        rw [if_pos c, if_pos c]
        exact c
    · show (shi kind p.1 p.2 key l[k] - slo kind p.1 p.2 key l[k]) * 2 ^ (k + 1) ≤ h0
      generalize shi kind p.1 p.2 key l[k] - slo kind p.1 p.2 key l[k] = d at *
      rw [Int.pow_succ, Int.mul_comm (2 ^ k) 2, ← Int.mul_assoc]
      exact Int.le_trans (Int.mul_le_mul_of_nonneg_right s1 (Int.le_of_lt (Int.pow_pos (by decide)))) i3

theorem sinv_end {kind n : Int} {k : Nat} {p : Int × Int} (hs : steps n ≤ k) (h : SInv kind (snew kind n) k p) : p.2 ≤ p.1 := by
  obtain ⟨_, _, h3⟩ := h
  refine Int.not_lt.mp fun hlt => ?_
  have hp : (0 : Int) < 2 ^ k := Int.pow_pos (by decide)
  have h4 : 1 * 2 ^ k ≤ (p.2 - p.1) * 2 ^ k := Int.mul_le_mul_of_nonneg_right (by omega) (Int.le_of_lt hp)
  have h5 : (2 : Int) ^ k ≤ snew kind n := by omega
  unfold snew at h5
  split at h5
  · omega
  · rename_i c
    have hn : 1 ≤ n := by omega
    unfold steps wid at hs
    rw [if_neg (by omega), if_neg (by omega)] at hs
    have h6 := (Nat.log2_lt (n := n.toNat) (k := k) (by omega)).mp (by omega)
    have h7 : (n.toNat : Int) < ((2 ^ k : Nat) : Int) := by exact_mod_cast h6
    rw [Int.natCast_pow] at h7
    have h8 : ((2 : Nat) : Int) ^ k = 2 ^ k := rfl
    omega
end Go.Proofs.Ytegephdgboaedaa
