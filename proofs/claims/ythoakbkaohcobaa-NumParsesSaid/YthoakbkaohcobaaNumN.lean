/-
  Two texts of digits without noughts ahead and of one value are one text; num.ParseInt in general.
-/
import Derived.Test.YthoakbkaohcobaaNumM
import Derived.Test.YthoakbkaohcobaaNumH
namespace Go.Proofs.Ythoakbkaohcobaa
open Go.RowKit

theorem val_eq_len (b : Nat) (hb : 2 ≤ b ∧ b ≤ 16) : ∀ {x y : List UInt8}, AllDig b x → AllDig b y → x.length = y.length → valL b x 0 = valL b y 0 → x = y
  | [], [], _, _, _, _ => rfl
  | [], _ :: _, _, _, h, _ => by simp at h
  | _ :: _, [], _, _, h, _ => by simp at h
  | a :: x, c :: y, hx, hy, h, hv => by
    have hx' : AllDig b x := fun z hz => hx z (by simp [hz])
    have hy' : AllDig b y := fun z hz => hy z (by simp [hz])
    have hl : x.length = y.length := by simpa using h
    have h1 := hx a (by simp)
    have h2 := hy c (by simp)
    have v1 := valL_lt b hb.1 hx'
    have v2 := valL_lt b hb.1 hy'
    have hv2 : valL b x (0 * b + dU a) = valL b y (0 * b + dU c) := hv
    rw [valL_split b x, valL_split b y, Nat.zero_mul, Nat.zero_add, Nat.zero_add, ← hl] at hv2
    rw [← hl] at v2
    have hd : dU a = dU c := by
      rcases Nat.lt_trichotomy (dU a) (dU c) with hlt | heq | hgt
      · have k : (dU a + 1) * b ^ x.length ≤ dU c * b ^ x.length := Nat.mul_le_mul_right _ hlt
        rw [Nat.add_mul] at k
        omega
      · exact heq
      · have k : (dU c + 1) * b ^ x.length ≤ dU a * b ^ x.length := Nat.mul_le_mul_right _ hgt
        rw [Nat.add_mul] at k
        omega
    have hv3 : valL b x 0 = valL b y 0 := by
      rw [hd] at hv2
      omega
    rw [val_eq_len b hb hx' hy' hl hv3, dig_back a (by omega), dig_back c (by omega), hd]
theorem val_len (b : Nat) (hb : 2 ≤ b ∧ b ≤ 16) {x : List UInt8} {c : UInt8} {l : List UInt8} (hx : AllDig b x) (h0 : l = [] ∨ 1 ≤ dU c) (hpos : 1 ≤ x.length) (hv : valL b x 0 = valL b (c :: l) 0) : (c :: l).length ≤ x.length := by
  rcases h0 with rfl | h1
  · simpa using hpos
  · have v1 := valL_lt b hb.1 hx
    have g := valL_ge b (l := l) h1
    rw [hv] at v1
    rcases Nat.lt_or_ge x.length (c :: l).length with hlt | hge
    · have k : b ^ x.length ≤ b ^ l.length := Nat.pow_le_pow_right (by omega) (by simp only [List.length_cons] at hlt; omega)
      exact absurd (Nat.lt_of_lt_of_le v1 (Nat.le_trans k g)) (Nat.lt_irrefl _)
    · exact hge
theorem val_inj (b : Nat) (hb : 2 ≤ b ∧ b ≤ 16) {a c : UInt8} {x y : List UInt8} (hx : AllDig b (a :: x)) (hy : AllDig b (c :: y)) (h1 : x = [] ∨ 1 ≤ dU a) (h2 : y = [] ∨ 1 ≤ dU c) (hv : valL b (a :: x) 0 = valL b (c :: y) 0) : a :: x = c :: y :=
  val_eq_len b hb hx hy (Nat.le_antisymm (val_len b hb hy h1 (by simp) hv.symm) (val_len b hb hx h2 (by simp) hv)) hv

/-- A text that is read to a base, without fault. -/
theorem rdRes_ok (b : Nat) (hb : b = 10 ∨ b = 16) {l : List UInt8} {n : Nat} (h : rdRes b l = (n, 0)) : ∃ c t, l = c :: t ∧ AllDig b (c :: t) ∧ (t = [] ∨ 1 ≤ dU c) ∧ valL b (c :: t) 0 = n ∧ n < 18446744073709551616 := by
  unfold rdRes at h
  cases hr : rd b l 0 false with
  | none =>
    rw [hr] at h
    simp at h
  | some r =>
    obtain ⟨m, o⟩ := r
    rw [hr] at h
    simp only at h
    by_cases hc : l = [] ∨ (l.getD 0 0 = 48 ∧ 1 < l.length)
    · rw [if_pos hc] at h
      simp at h
    · rw [if_neg hc] at h
      cases o with
      | true => simp at h
      | false =>
        simp at h
        subst h
        rcases l with _ | ⟨c, t⟩
        · exact absurd (.inl rfl) hc
        · have ha := rd_all b _ _ _ _ hr
          obtain ⟨m', e1, e2⟩ := rd_val b (by omega) (c :: t) 0 false ha (by omega)
          rw [e1] at hr
          injection hr with hr
          injection hr with hr1 hr2
          have hlt : valL b (c :: t) 0 < 18446744073709551616 := by
            simpa using hr2
          have hd := ha c (by simp)
          refine ⟨c, t, rfl, ha, ?_, by rw [← e2 hlt]; exact hr1, by rw [← hr1, e2 hlt]; exact hlt⟩
          rcases Nat.eq_zero_or_pos (dU c) with hz | hz
          · left
            have hb0 := dig_back c (by omega)
            rw [hz] at hb0
            rcases t with _ | ⟨d, t⟩
            · rfl
            · exact absurd (.inr ⟨hb0, by simp⟩) hc
          · exact .inr hz
/-- Two texts that are read as one number are one text. -/
theorem rdRes_inj (b : Nat) (hb : b = 10 ∨ b = 16) {l m : List UInt8} {n : Nat} (h : rdRes b l = (n, 0)) (h' : rdRes b m = (n, 0)) : l = m := by
  obtain ⟨c, t, rfl, a1, a2, a3, _⟩ := rdRes_ok b hb h
  obtain ⟨d, u, rfl, b1, b2, b3, _⟩ := rdRes_ok b hb h'
  exact val_inj b (by omega) a1 b1 a2 b2 (by rw [a3, b3])
end Go.Proofs.Ythoakbkaohcobaa
