/-
  Texts of digits and their values, plainly: when a text is too great.
-/
import Derived.Test.YthpgoglhccoeeaaNumG
namespace Go.Proofs.Ythpgoglhccoeeaa
open Go.RowKit

/-- The value of digits, behind a value. -/
def valL (b : Nat) : List UInt8 → Nat → Nat
  | [], n => n
  | c :: l, n => valL b l (n * b + dU c)
def AllDig (b : Nat) (l : List UInt8) : Prop := ∀ c ∈ l, dU c < b
theorem valL_split (b : Nat) : ∀ (l : List UInt8) (n : Nat), valL b l n = n * b ^ l.length + valL b l 0
  | [], n => by simp [valL]
  | c :: l, n => by
    show valL b l (n * b + dU c) = _ + valL b l (0 * b + dU c)
    rw [valL_split b l (n * b + dU c), valL_split b l (0 * b + dU c), List.length_cons, Nat.pow_succ, Nat.add_mul, Nat.zero_mul, Nat.zero_add, Nat.add_assoc]
    congr 1
    rw [Nat.mul_assoc, Nat.mul_comm b]
theorem valL_lt (b : Nat) (hb : 2 ≤ b) : ∀ {l : List UInt8}, AllDig b l → valL b l 0 < b ^ l.length
  | [], _ => by simp [valL]
  | c :: l, h => by
    show valL b l (0 * b + dU c) < _
    rw [valL_split, List.length_cons, Nat.pow_succ]
    have h1 := valL_lt b hb (fun x hx => h x (by simp [hx]) : AllDig b l)
    have h2 := h c (by simp)
    have h3 : (dU c + 1) * b ^ l.length ≤ b * b ^ l.length := Nat.mul_le_mul_right _ h2
    rw [Nat.add_mul] at h3
    rw [Nat.zero_mul, Nat.zero_add, Nat.mul_comm (b ^ l.length)]
    omega
theorem valL_ge (b : Nat) {c : UInt8} {l : List UInt8} (h : 1 ≤ dU c) : b ^ l.length ≤ valL b (c :: l) 0 := by
  show _ ≤ valL b l (0 * b + dU c)
  rw [valL_split, Nat.zero_mul, Nat.zero_add]
  have : 1 * b ^ l.length ≤ dU c * b ^ l.length := Nat.mul_le_mul_right _ h
  omega
theorem valL_mono (b : Nat) (hb : 1 ≤ b) : ∀ (l : List UInt8) (n : Nat), n ≤ valL b l n
  | [], n => Nat.le_refl _
  | c :: l, n => by
    have h1 := valL_mono b hb l (n * b + dU c)
    have h2 : n * 1 ≤ n * b := Nat.mul_le_mul_left _ hb
    show n ≤ valL b l (n * b + dU c)
    omega
/-- What rd tells of digits: the value modulo 2^64, or that it went over. -/
theorem rd_val (b : Nat) (hb : 2 ≤ b ∧ b ≤ 16) : ∀ (l : List UInt8) (n : Nat) (o : Bool), AllDig b l → n < 18446744073709551616 →
    ∃ m, rd b l n o = some (m, o || decide (18446744073709551616 ≤ valL b l n)) ∧ (valL b l n < 18446744073709551616 → m = valL b l n)
  | [], n, o, _, hn => by
    refine ⟨n, ?_, fun _ => rfl⟩
    show some (n, o) = some (n, o || decide (18446744073709551616 ≤ n))
    have : decide (18446744073709551616 ≤ n) = false := by simp; omega
    rw [this, Bool.or_false]
  | c :: l, n, o, h, hn => by
    have hd := h c (by simp)
    have hl : AllDig b l := fun x hx => h x (by simp [hx])
    have e : rd b (c :: l) n o = rd b l ((n * b + dU c) % 18446744073709551616) (o || decide ((18446744073709551615 - dU c) / b < n)) := if_neg (by omega)
    rw [e]
    have hv : valL b (c :: l) n = valL b l (n * b + dU c) := rfl
    rw [hv]
    by_cases hov : 18446744073709551616 ≤ n * b + dU c
    · have hq : (18446744073709551615 - dU c) / b < n := by
        rw [Nat.div_lt_iff_lt_mul (by omega)]
        omega
      have hbig : 18446744073709551616 ≤ valL b l (n * b + dU c) := Nat.le_trans hov (valL_mono b (by omega) l _)
      obtain ⟨m, h1, _⟩ := rd_val b hb l ((n * b + dU c) % 18446744073709551616) (o || decide ((18446744073709551615 - dU c) / b < n)) hl (Nat.mod_lt _ (by omega))
      refine ⟨m, ?_, fun hlt => by omega⟩
      rw [h1]
      simp [hq, hbig]
    · have hq : ¬ (18446744073709551615 - dU c) / b < n := by
        rw [Nat.div_lt_iff_lt_mul (by omega)]
        omega
      have hmod : (n * b + dU c) % 18446744073709551616 = n * b + dU c := Nat.mod_eq_of_lt (by omega)
      rw [hmod]
      obtain ⟨m, h1, h2⟩ := rd_val b hb l (n * b + dU c) (o || decide ((18446744073709551615 - dU c) / b < n)) hl (by omega)
      refine ⟨m, ?_, h2⟩
      rw [h1]
      simp [hq]

theorem dig_back' : ∀ n, n < 256 → dU (UInt8.ofNat n) < 16 → UInt8.ofNat n = byt (digC (dU (UInt8.ofNat n))) := by decide +kernel
theorem dig_back (c : UInt8) (h : dU c < 16) : c = byt (digC (dU c)) := by
  have := dig_back' c.toNat (UInt8.toNat_lt c)
  simp only [UInt8.ofNat_toNat] at this
  exact this h
theorem dig_lt' : ∀ d, d < 16 → ∀ e, e < 16 → (decide (byt (digC d) < byt (digC e)) = decide (d < e) ∧ (byt (digC d) == byt (digC e)) = (d == e)) := by decide +kernel
theorem dig_lt {a c : UInt8} (ha : dU a < 16) (hc : dU c < 16) : decide (a < c) = decide (dU a < dU c) ∧ (a == c) = (dU a == dU c) := by
  have h := dig_lt' (dU a) ha (dU c) hc
  rw [← dig_back a ha, ← dig_back c hc] at h
  exact h
theorem lex_val (b : Nat) (hb : 2 ≤ b ∧ b ≤ 16) : ∀ {x y : List UInt8}, AllDig b x → AllDig b y → x.length = y.length → Op.bytesLess x y = decide (valL b x 0 < valL b y 0)
  | [], [], _, _, _ => rfl
  | [], _ :: _, _, _, h => by simp at h
  | _ :: _, [], _, _, h => by simp at h
  | a :: x, c :: y, hx, hy, h => by
    have hx' : AllDig b x := fun z hz => hx z (by simp [hz])
    have hy' : AllDig b y := fun z hz => hy z (by simp [hz])
    have hl : x.length = y.length := by simpa using h
    have h1 := hx a (by simp)
    have h2 := hy c (by simp)
    have ih := lex_val b hb hx' hy' hl
    obtain ⟨e1, e2⟩ := dig_lt (a := a) (c := c) (by omega) (by omega)
    have v1 := valL_lt b hb.1 hx'
    have v2 := valL_lt b hb.1 hy'
    show (decide (a < c) || (a == c && Op.bytesLess x y)) = decide (valL b x (0 * b + dU a) < valL b y (0 * b + dU c))
    rw [e1, e2, ih, valL_split b x (0 * b + dU a), valL_split b y (0 * b + dU c), Nat.zero_mul, Nat.zero_add, Nat.zero_add]
    rw [← hl] at v2 ⊢
    generalize b ^ x.length = B at *
    generalize valL b x 0 = p at *
    generalize valL b y 0 = q at *
    rcases Nat.lt_trichotomy (dU a) (dU c) with hlt | heq | hgt
    · have k : (dU a + 1) * B ≤ dU c * B := Nat.mul_le_mul_right _ hlt
      rw [Nat.add_mul] at k
      have r : dU a * B + p < dU c * B + q := by omega
      simp [hlt, r]
    · rw [heq]
      simp
    · have k : (dU c + 1) * B ≤ dU a * B := Nat.mul_le_mul_right _ hgt
      rw [Nat.add_mul] at k
      have r : ¬ dU a * B + p < dU c * B + q := by omega
      have r1 : ¬ dU a < dU c := by omega
      have r2 : (dU a == dU c) = false := by simp; omega
      simp [r, r1, r2]

def topL (b : Nat) : List UInt8 := (form b 18446744073709551615).map byt
def greatB (b : Nat) (s : List UInt8) : Bool := if s.length ≠ (topL b).length then decide ((topL b).length < s.length) else Op.bytesLess (topL b) s
theorem top_facts (b : Nat) (hb : b = 10 ∨ b = 16) : AllDig b (topL b) ∧ valL b (topL b) 0 = 18446744073709551615 ∧ 1 ≤ (topL b).length ∧ b ^ ((topL b).length - 1) ≤ 18446744073709551615 := by
  rcases hb with rfl | rfl
  · refine ⟨?_, by decide +kernel, by decide +kernel, by decide +kernel⟩
    unfold AllDig
    decide +kernel
  · refine ⟨?_, by decide +kernel, by decide +kernel, by decide +kernel⟩
    unfold AllDig
    decide +kernel
/-- Too great by its length, then by its bytes, is too great. -/
theorem great_val (b : Nat) (hb : b = 10 ∨ b = 16) {c : UInt8} {l : List UInt8} (h : AllDig b (c :: l)) (h0 : l = [] ∨ 1 ≤ dU c) : greatB b (c :: l) = decide (18446744073709551616 ≤ valL b (c :: l) 0) := by
  obtain ⟨t1, t2, t3, t4⟩ := top_facts b hb
  have b2 : 2 ≤ b ∧ b ≤ 16 := by omega
  have tl := valL_lt b b2.1 t1
  have vl := valL_lt b b2.1 h
  unfold greatB
  by_cases hlen : (c :: l).length = (topL b).length
  · rw [if_neg (by simpa using hlen), lex_val b b2 t1 h hlen.symm, t2]
    rw [decide_eq_decide]
    omega
  · rw [if_pos hlen, decide_eq_decide]
    rw [t2] at tl
    by_cases hlt : (topL b).length < (c :: l).length
    · have hl : l ≠ [] := by
        intro e
        rw [e] at hlt
        simp only [List.length_cons, List.length_nil] at hlt
        omega
      have h1 : 1 ≤ dU c := by
        rcases h0 with h0 | h0
        · exact absurd h0 hl
        · exact h0
      have g := valL_ge b (l := l) h1
      have k : b ^ (topL b).length ≤ b ^ l.length := Nat.pow_le_pow_right (by omega) (by simp at hlt; omega)
      constructor
      · intro _
        omega
      · intro _
        exact hlt
    · have k : b ^ (c :: l).length ≤ b ^ ((topL b).length - 1) := Nat.pow_le_pow_right (by omega) (by omega)
      constructor
      · intro hh
        exact absurd hh hlt
      · intro hh
        have q := Nat.lt_of_lt_of_le vl (Nat.le_trans k t4)
        exact absurd q (Nat.not_lt.2 (Nat.le_trans (by decide) hh))
end Go.Proofs.Ythpgoglhccoeeaa
