/-
  Package num: reader, Parse, Unhex.
-/
import Derived.Test.YthpgoglhccoeeaaNumB
import Derived.Lib.Bytealg
import Derived.Laws.Externs
import Derived.Laws.Strings
namespace Go.Proofs.Ythpgoglhccoeeaa
open Go.RowKit

def digs : List UInt8 := [48, 49, 50, 51, 52, 53, 54, 55, 56, 57, 97, 98, 99, 100, 101, 102]
def dv (c : UInt8) : Int := Lib.indexByte digs c
theorem ixb_range : ∀ (l : List UInt8) (c : UInt8), Lib.indexByte l c = -1 ∨ ∃ d : Nat, d < l.length ∧ Lib.indexByte l c = d
  | [], _ => .inl rfl
  | b :: l, c => by
    unfold Lib.indexByte
    by_cases h : (b == c) = true
    · rw [if_pos h]
      exact .inr ⟨0, by simp, rfl⟩
    · rw [if_neg h]
      rcases ixb_range l c with h1 | ⟨d, h1, h2⟩
      · rw [h1]
        exact .inl rfl
      · rw [h2]
        refine .inr ⟨d + 1, by simpa using h1, ?_⟩
        have : ((d : Int) == -1) = false := by rw [beq_eq_false_iff_ne]; omega
        rw [this]
        rfl

set_option maxHeartbeats 400000 in
theorem ixb_any (c : UInt8) (w : World) : Calls Try.prog 43 #[.string ⟨#[48, 49, 50, 51, 52, 53, 54, 55, 56, 57, 97, 98, 99, 100, 101, 102]⟩, .int .u8 (c.toNat : Int)] w fun e w' => e = .returned (.int .i64 (dv c)) ∧ w = w' := by
  have E : Lib.indexByte digs ((c.toNat : Int)).toNat.toUInt8 = dv c := by
    unfold dv
    congr 1
    simp
  go_enter Try.func43, Try.ntmps43
  go_wp2
  rw [run_callFunc_extern Try.func47 (by kernel_rfl) (by kernel_rfl) (by kernel_rfl) (e := Extern.BytealgIndexByte.indexByte) (by kernel_rfl), Lib.run_indexByteString]
  simp only [Result.andThen]
  rw [Oper.upon_value]
  rw [show Lib.indexByte (ByteArray.mk #[48, 49, 50, 51, 52, 53, 54, 55, 56, 57, 97, 98, 99, 100, 101, 102]).data.toList ((c.toNat : Int)).toNat.toUInt8 = dv c from E]
  go_wp2
  go_ret
  exact ⟨rfl, rfl⟩
set_option maxHeartbeats 400000 in
theorem sixb_any (c : UInt8) (w : World) : Calls Try.prog 42 #[.string ⟨#[48, 49, 50, 51, 52, 53, 54, 55, 56, 57, 97, 98, 99, 100, 101, 102]⟩, .int .u8 (c.toNat : Int)] w fun e w' => e = .returned (.int .i64 (dv c)) ∧ w = w' := by
  have F := hide (ixb_any c)
  generalize dv c = r at *
  go_enter Try.func42, Try.ntmps42
  go_wp2_with fail
  refine (F.out _).mono ?_
  rintro e w' ⟨rfl, rfl⟩
  go_wp2_with fail
  go_ret
  exact ⟨rfl, rfl⟩

def dU (c : UInt8) : Nat := if dv c < 0 then 18446744073709551615 else (dv c).toNat
theorem dU_cases (c : UInt8) : (dv c = -1 ∧ dU c = 18446744073709551615) ∨ ∃ d : Nat, d < 16 ∧ dv c = d ∧ dU c = d := by
  rcases ixb_range digs c with h | ⟨d, h1, h2⟩
  · exact .inl ⟨h, by unfold dU; rw [show dv c = -1 from h]; rfl⟩
  · refine .inr ⟨d, h1, h2, ?_⟩
    unfold dU
    rw [show dv c = d from h2, if_neg (by omega), Int.toNat_natCast]
/-- The digits of a text, read to a base: the word so far, and whether it went over; none: some byte is no digit. -/
def rd (b : Nat) : List UInt8 → Nat → Bool → Option (Nat × Bool)
  | [], n, o => some (n, o)
  | c :: l, n, o => if b ≤ dU c then none else rd b l ((n * b + dU c) % 18446744073709551616) (o || decide ((18446744073709551615 - dU c) / b < n))
def rdRes (b : Nat) (l : List UInt8) : Nat × Int :=
  match rd b l 0 false with
  | none => (0, 4)
  | some (n, o) => if l = [] ∨ (l.getD 0 0 = 48 ∧ 1 < l.length) then (0, 4) else if o = true then (0, 5) else (n, 0)

def RdIn (b : Nat) (s : ByteArray) (w : World) (v5 v6 v11 : Value) (wr : World) : Prop :=
  ∃ (k n : Nat) (o : Bool), k ≤ s.size ∧ v11 = .int .i64 k ∧ v5 = .int .u64 n ∧ v6 = .bool o ∧ n < 18446744073709551616 ∧ rd b (s.data.toList.drop k) n o = rd b s.data.toList 0 false ∧ wr = w

set_option maxHeartbeats 2000000 in
theorem reader1_any (b g : Nat) (s : ByteArray) (w : World) (hb : b = 10 ∨ b = 16) (hs : s.size ≤ 1000) (hc : w.cell? ⟨g, 0, none⟩ = some (.int .u64 b)) :
    Calls Try.prog 41 #[.string s, .pointer (some ⟨g, 0, none⟩)] w fun e w' => e = .returned (.tuple #[.int .u64 (rdRes b s.data.toList).1, .int .i64 (rdRes b s.data.toList).2]) ∧ w = w' := by
  have b2 : 2 ≤ b ∧ b ≤ 16 := by omega
  have hbz : ((b : Int) == 0) = false := by simp; omega
  have hbz2 : ¬ ((b : Int) = 0) := by omega
  have RR := hide (show rdRes b s.data.toList = (match rd b s.data.toList 0 false with
    | none => (0, 4)
    | some (n, o) => if s.data.toList = [] ∨ (s.data.toList.getD 0 0 = 48 ∧ 1 < s.data.toList.length) then (0, 4) else if o = true then (0, 5) else (n, 0)) from rfl)
  generalize rdRes b s.data.toList = R at *
  go_enter Try.func41, Try.ntmps41
  go_wp2_with fail
  go_loopw [5, 6, 11] (RdIn b s w) (fun _ _ i _ => 100000 - (intOf i).toNat)
  case atStart => exact ⟨0, 0, false, by omega, rfl, rfl, rfl, by omega, rfl, rfl⟩
  case round =>
    obtain ⟨k, n, o, hk, rfl, rfl, rfl, hn, hR, rfl⟩ := hrel
    have HR := hide hR
    clear hR
    by_cases hlt : k < s.size
    · have hd : s.data.toList.drop k = s[k] :: s.data.toList.drop (k + 1) := by
        have hl : k < s.data.toList.length := by simpa using hlt
        rw [List.drop_eq_getElem_cons hl]
        rfl
      have F := hide (sixb_any s[k])
      have hst := hide (show rd b (s.data.toList.drop k) n o = if b ≤ dU s[k] then none else rd b (s.data.toList.drop (k + 1)) ((n * b + dU s[k]) % 18446744073709551616) (o || decide ((18446744073709551615 - dU s[k]) / b < n)) by rw [hd]; rfl)
      clear hd
      rcases dU_cases s[k] with ⟨e1, e2⟩ | ⟨d, hd16, e1, e2⟩
      · rw [e1] at F
        rw [e2] at hst
        have Rn := hide (show R = (0, 4) by
          rw [RR.out, ← HR.out, hst.out, if_pos (by omega)])
        clear RR HR hst e1 e2
        have le1 : (b : Int) ≤ 18446744073709551615 := by omega
        have hm1 : IntKind.u64.wrap (-1) = 18446744073709551615 := by decide
        go_wp2_with fail
        refine (F.out _).mono ?_
        rintro e w' ⟨rfl, rfl⟩
        go_wp2_with fail
        go_ret2
        exact ⟨by rw [Rn.out]; rfl, rfl⟩
      · rw [e1] at F
        rw [e2] at hst
        clear e1 e2
        by_cases hbd : b ≤ d
        · have Rn := hide (show R = (0, 4) by
            rw [RR.out, ← HR.out, hst.out, if_pos hbd])
          clear RR HR hst
          go_wp2_with fail
          refine (F.out _).mono ?_
          rintro e w' ⟨rfl, rfl⟩
          go_wp2_with fail
          go_ret2
          exact ⟨by rw [Rn.out]; rfl, rfl⟩
        · have hst2 := hst.out
          rw [if_neg hbd] at hst2
          have t2 : (18446744073709551615 - (d : Int)).tdiv (b : Int) = (((18446744073709551615 - d) / b : Nat) : Int) := by
            rw [Int.tdiv_eq_ediv_of_nonneg (by omega)]
            rw [show 18446744073709551615 - (d : Int) = ((18446744073709551615 - d : Nat) : Int) by omega]
            rfl
          have q2 : (18446744073709551615 - d) / b ≤ 18446744073709551615 := Nat.le_trans (Nat.div_le_self _ _) (by omega)
          have hw : IntKind.u64.wrap (IntKind.u64.wrap ((n : Int) * (b : Int)) + (d : Int)) = (((n * b + d) % 18446744073709551616 : Nat) : Int) := by
            rw [IntKind.wrap_u64, IntKind.wrap_u64]
            have : ((n * b : Nat) : Int) = (n : Int) * (b : Int) := by simp
            rw [← this]
            omega
          have hm : (n * b + d) % 18446744073709551616 < 18446744073709551616 := Nat.mod_lt _ (by omega)
          have Hst := hide hst2
          clear hst hst2
          generalize (n * b + d) % 18446744073709551616 = m at *
          generalize (18446744073709551615 - d) / b = q at *
          by_cases hov : q < n
          · have ho := hide (show (o || decide (q < n)) = true by simp [hov])
            rw [ho.out] at Hst
            go_wp2_with fail
            refine (F.out _).mono ?_
            rintro e w' ⟨rfl, rfl⟩
            go_wp2_with fail
            go_roundw
            case rel => exact ⟨k + 1, m, true, by omega, by go_num, rfl, rfl, hm, by rw [← Hst.out, HR.out], rfl⟩
            case measure => simp [intOf]; omega
          · have ho := hide (show (o || decide (q < n)) = o by simp [hov])
            rw [ho.out] at Hst
            go_wp2_with fail
            refine (F.out _).mono ?_
            rintro e w' ⟨rfl, rfl⟩
            go_wp2_with fail
            go_roundw
            case rel => exact ⟨k + 1, m, o, by omega, by go_num, rfl, rfl, hm, by rw [← Hst.out, HR.out], rfl⟩
            case measure => simp [intOf]; omega
    · have hk2 : k = s.size := by omega
      have hfin : rd b s.data.toList 0 false = some (n, o) := by
        rw [← HR.out, hk2, List.drop_of_length_le (by show s.data.toList.length ≤ s.data.size; rw [Array.length_toList]; exact Nat.le_refl _)]
        rfl
      have hR2 := RR.out
      rw [hfin] at hR2
      simp only at hR2
      have H2 := hide hR2
      clear RR HR hR2 hfin hk2
      by_cases he : s = ⟨#[]⟩
      · subst he
        have Rn := hide (show R = (0, 4) by rw [H2.out]; rfl)
        clear H2
        go_wp2_with fail
        go_ret2
        exact ⟨by rw [Rn.out]; rfl, rfl⟩
      · have hpos : 0 < s.size := by
          rcases Nat.eq_zero_or_pos s.size with h | h
          · exact absurd (ByteArray.ext (Array.eq_empty_of_size_eq_zero h)) he
          · exact h
        have hl : s.data.toList.length = s.size := Array.length_toList
        have h0 : s.data.toList ≠ [] := by
          intro h
          rw [h] at hl
          simp only [List.length_nil] at hl
          omega
        have g0 : s.data.toList.getD 0 0 = s[0] := by
          rw [List.getD_eq_getElem?_getD, List.getElem?_eq_getElem (by omega)]
          rfl
        rw [g0, hl] at H2
        have hem : s.toList.isEmpty = false := by
          rw [ByteArray.toList_eq]
          simpa using h0
        have H3 := hide h0
        clear h0 g0 hl
        generalize hcc : s[0] = c0 at *
        by_cases hc0 : c0 = 48
        · subst hc0
          have k1 : (((48 : UInt8).toNat : Int) == 48) = true := by decide
          by_cases h1 : 1 < s.size
          · have Rn := hide (show R = (0, 4) by rw [H2.out, if_pos (.inr ⟨rfl, h1⟩)])
            clear H2
            go_wp2_with fail
            go_ret2
            exact ⟨by rw [Rn.out]; rfl, rfl⟩
          · have Rn := hide (show R = if o = true then (0, 5) else (n, 0) by
              rw [H2.out, if_neg]
              rintro (h | ⟨_, h⟩)
              · exact H3.out h
              · exact h1 h)
            clear H2
            cases o
            · go_wp2_with fail
              go_ret2
              exact ⟨by rw [Rn.out]; rfl, rfl⟩
            · go_wp2_with fail
              go_ret2
              exact ⟨by rw [Rn.out]; rfl, rfl⟩
        · have k1 : ((c0.toNat : Int) == 48) = false := by
            rw [beq_eq_false_iff_ne]
            intro h
            apply hc0
            apply UInt8.toNat_inj.1
            show c0.toNat = 48
            omega
          have Rn := hide (show R = if o = true then (0, 5) else (n, 0) by
            rw [H2.out, if_neg]
            rintro (h | ⟨h, _⟩)
            · exact H3.out h
            · exact hc0 h)
          clear H2
          cases o
          · go_wp2_with fail
            go_ret2
            exact ⟨by rw [Rn.out]; rfl, rfl⟩
          · go_wp2_with fail
            go_ret2
            exact ⟨by rw [Rn.out]; rfl, rfl⟩
end Go.Proofs.Ythpgoglhccoeeaa
