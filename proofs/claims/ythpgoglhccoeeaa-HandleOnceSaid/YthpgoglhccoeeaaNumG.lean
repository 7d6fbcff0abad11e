/-
  Numbers' texts, read again: plainly.
-/
import Derived.Test.YthpgoglhccoeeaaNumD
namespace Go.Proofs.Ythpgoglhccoeeaa
open Go.RowKit

def byt (x : Int) : UInt8 := UInt8.ofNat x.toNat
theorem strOf_list (xs : List Int) : (strOfNums xs).data.toList = xs.map byt := by
  simp [strOfNums, byt]
theorem dU_dig (d : Nat) (h : d < 16) : dU (byt (digC d)) = d := by
  have hd : d = 0 ∨ d = 1 ∨ d = 2 ∨ d = 3 ∨ d = 4 ∨ d = 5 ∨ d = 6 ∨ d = 7 ∨ d = 8 ∨ d = 9 ∨ d = 10 ∨ d = 11 ∨ d = 12 ∨ d = 13 ∨ d = 14 ∨ d = 15 := by omega
  rcases hd with rfl | rfl | rfl | rfl | rfl | rfl | rfl | rfl | rfl | rfl | rfl | rfl | rfl | rfl | rfl | rfl
  all_goals decide
theorem byt_dig (d : Nat) (h : d < 16) (h0 : 0 < d) : byt (digC d) ≠ 48 ∧ byt (digC d) ≠ 45 := by
  have hd : d = 1 ∨ d = 2 ∨ d = 3 ∨ d = 4 ∨ d = 5 ∨ d = 6 ∨ d = 7 ∨ d = 8 ∨ d = 9 ∨ d = 10 ∨ d = 11 ∨ d = 12 ∨ d = 13 ∨ d = 14 ∨ d = 15 := by omega
  rcases hd with rfl | rfl | rfl | rfl | rfl | rfl | rfl | rfl | rfl | rfl | rfl | rfl | rfl | rfl | rfl
  all_goals decide
theorem formL_acc (b : Nat) : ∀ (f n : Nat) (acc : List Int), formL b f n acc = formL b f n [] ++ acc
  | 0, _, acc => rfl
  | f + 1, n, acc => by
    unfold formL
    by_cases h : n = 0
    · rw [if_pos h, if_pos h]; rfl
    · rw [if_neg h, if_neg h, formL_acc b f (n / b) (digC (n % b) :: acc), formL_acc b f (n / b) [digC (n % b)], List.append_assoc]
      rfl
theorem rd_append (b : Nat) : ∀ (l m : List UInt8) (n : Nat) (o : Bool), rd b (l ++ m) n o = match rd b l n o with
    | none => none
    | some (n', o') => rd b m n' o'
  | [], m, n, o => rfl
  | c :: l, m, n, o => by
    show (if b ≤ dU c then none else rd b (l ++ m) _ _) = _
    by_cases h : b ≤ dU c
    · rw [if_pos h]
      show _ = match (if b ≤ dU c then none else rd b l _ _) with
        | none => none
        | some (n', o') => rd b m n' o'
      rw [if_pos h]
    · rw [if_neg h, rd_append b l m]
      show _ = match (if b ≤ dU c then none else rd b l _ _) with
        | none => none
        | some (n', o') => rd b m n' o'
      rw [if_neg h]
theorem rd_form (b : Nat) (hb : 2 ≤ b ∧ b ≤ 16) : ∀ (f n : Nat), n < 2 ^ f → n < 18446744073709551616 → rd b ((formL b f n []).map byt) 0 false = some (n, false)
  | 0, n, h, _ => by
    obtain rfl : n = 0 := by simpa using h
    rfl
  | f + 1, n, h, hm => by
    by_cases h0 : n = 0
    · subst h0
      rfl
    · have e : formL b (f + 1) n [] = formL b f (n / b) [] ++ [digC (n % b)] := by
        show (if n = 0 then _ else formL b f (n / b) [digC (n % b)]) = _
        rw [if_neg h0, formL_acc]
      have hlt : n / b < 2 ^ f := by
        rw [Nat.pow_succ] at h
        exact Nat.div_lt_of_lt_mul (by have := Nat.mul_le_mul_right (2 ^ f) hb.1; omega)
      have hle : n / b ≤ n := Nat.div_le_self _ _
      have hd : n % b < b := Nat.mod_lt _ (by omega)
      rw [e, List.map_append, rd_append, rd_form b hb f (n / b) hlt (by omega)]
      show (if b ≤ dU (byt (digC (n % b))) then none else some ((n / b * b + dU (byt (digC (n % b)))) % 18446744073709551616, false || decide ((18446744073709551615 - dU (byt (digC (n % b)))) / b < n / b))) = _
      have hdm : n / b * b + n % b = n := by rw [Nat.mul_comm]; exact Nat.div_add_mod n b
      have hq : n / b ≤ (18446744073709551615 - n % b) / b := by
        rw [Nat.le_div_iff_mul_le (by omega)]
        omega
      rw [dU_dig _ (by omega), if_neg (by omega), hdm, Nat.mod_eq_of_lt hm]
      have : decide ((18446744073709551615 - n % b) / b < n / b) = false := by simp; omega
      rw [this]
      rfl
theorem form_head (b : Nat) (hb : 2 ≤ b ∧ b ≤ 16) : ∀ (f n : Nat) (acc : List Int), 0 < n → n < 2 ^ f → ∃ c l, formL b f n acc = c :: l ∧ byt c ≠ 48 ∧ byt c ≠ 45
  | 0, n, acc, h0, h => by
    simp at h
    omega
  | f + 1, n, acc, h0, h => by
    have e : formL b (f + 1) n acc = formL b f (n / b) (digC (n % b) :: acc) := if_neg (by omega)
    have hlt : n / b < 2 ^ f := by
      rw [Nat.pow_succ] at h
      exact Nat.div_lt_of_lt_mul (by have := Nat.mul_le_mul_right (2 ^ f) hb.1; omega)
    have hd : n % b < b := Nat.mod_lt _ (by omega)
    rw [e]
    by_cases hz : n / b = 0
    · have hnb : n < b := by
        rcases Nat.div_eq_zero_iff.1 hz with h1 | h1
        · omega
        · exact h1
      have hm : n % b = n := Nat.mod_eq_of_lt hnb
      have ez : formL b f (n / b) (digC (n % b) :: acc) = digC (n % b) :: acc := by
        rw [hz]
        cases f <;> rfl
      rw [ez]
      exact ⟨_, _, rfl, byt_dig _ (by omega) (by rw [hm]; exact h0)⟩
    · exact form_head b hb f (n / b) _ (Nat.pos_of_ne_zero hz) hlt
/-- A number's text reads as the number. -/
theorem rdRes_form (b n : Nat) (hb : b = 10 ∨ b = 16) (hn : n < 18446744073709551616) : rdRes b (strOfNums (form b n)).data.toList = (n, 0) := by
  rw [strOf_list]
  by_cases h0 : n = 0
  · subst h0
    rcases hb with rfl | rfl
    · decide
    · decide
  · have e : form b n = formL b 64 n [] := if_neg h0
    rw [e]
    unfold rdRes
    rw [rd_form b (by omega) 64 n (by simpa using hn) hn]
    obtain ⟨c, l, h1, h2, _⟩ := form_head b (by omega) 64 n [] (by omega) (by simpa using hn)
    rw [h1]
    simp [h2]
end Go.Proofs.Ythpgoglhccoeeaa
