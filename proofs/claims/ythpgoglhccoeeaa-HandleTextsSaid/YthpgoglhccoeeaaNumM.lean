/-
  gleaningref02.Read.
-/
import Derived.Test.YthpgoglhccoeeaaNumL
namespace Go.Proofs.Ythpgoglhccoeeaa
open Go.RowKit

theorem rd_all (b : Nat) : ∀ (l : List UInt8) (n : Nat) (o : Bool) (r : Nat × Bool), rd b l n o = some r → AllDig b l
  | [], _, _, _, _ => fun c hc => by simp at hc
  | c :: l, n, o, r, h => by
    have e : rd b (c :: l) n o = if b ≤ dU c then none else rd b l ((n * b + dU c) % 18446744073709551616) (o || decide ((18446744073709551615 - dU c) / b < n)) := rfl
    rw [e] at h
    by_cases hc : b ≤ dU c
    · rw [if_pos hc] at h
      cases h
    · rw [if_neg hc] at h
      have ih := rd_all b l _ _ r h
      intro x hx
      rcases List.mem_cons.1 hx with rfl | hx
      · omega
      · exact ih x hx
/-- Where a text of digits without noughts ahead is read: it went over just if it is great. -/
theorem rd_great (b : Nat) (hb : b = 10 ∨ b = 16) {c : UInt8} {l : List UInt8} {n : Nat} {o : Bool} (h : rd b (c :: l) 0 false = some (n, o)) (h0 : l = [] ∨ c ≠ 48) : o = greatB b (c :: l) := by
  have ha := rd_all b _ _ _ _ h
  have hd := ha c (by simp)
  have h1 : l = [] ∨ 1 ≤ dU c := by
    rcases h0 with h0 | h0
    · exact .inl h0
    · refine .inr ?_
      rcases Nat.eq_zero_or_pos (dU c) with hz | hz
      · have := dig_back c (by omega)
        rw [hz] at this
        exact absurd this h0
      · exact hz
  obtain ⟨m, e1, _⟩ := rd_val b (by omega) (c :: l) 0 false ha (by omega)
  rw [e1] at h
  injection h with h
  injection h with _ h
  rw [great_val b hb ha h1, ← h]
  simp

def RRIn (b : Nat) (s : ByteArray) (w : World) (v6 v7 : Value) (wr : World) : Prop :=
  ∃ (k n : Nat) (o : Bool), k ≤ s.size ∧ v7 = .int .i64 k ∧ v6 = .int .u64 n ∧ n < 18446744073709551616 ∧ rd b (s.data.toList.drop k) n o = rd b s.data.toList 0 false ∧ wr = w

set_option maxHeartbeats 2000000 in
theorem rread_any (b : Nat) (s : ByteArray) (w : World) (hb : b = 10 ∨ b = 16) (hs : s.size ≤ 1000) :
    Calls Try.prog 29 #[.string s, .int .u64 b] w fun e w' => e = .returned (.tuple #[.int .u64 (rdRes b s.data.toList).1, .int .i64 (rdRes b s.data.toList).2]) ∧ Below w.heap.size w w' := by
  have b2 : 2 ≤ b ∧ b ≤ 16 := by omega
  have RR := hide (show rdRes b s.data.toList = (match rd b s.data.toList 0 false with
    | none => (0, 4)
    | some (n, o) => if s.data.toList = [] ∨ (s.data.toList.getD 0 0 = 48 ∧ 1 < s.data.toList.length) then (0, 4) else if o = true then (0, 5) else (n, 0)) from rfl)
  have hl : s.data.toList.length = s.size := Array.length_toList
  have G := hide (fun w => great_any b s w hb hs)
  generalize rdRes b s.data.toList = R at *
  by_cases he : s.size = 0
  · have hn : s.data.toList = [] := List.eq_nil_of_length_eq_zero (by omega)
    have Rn := hide (show R = (0, 4) by rw [RR.out, hn]; rfl)
    clear RR hn hl G
    have q : ((s.size : Int) == 0) = true := by simp [he]
    clear he
    go_enter Try.func29, Try.ntmps29
    go_wp2_with fail
    go_ret2
    exact ⟨by rw [Rn.out]; rfl, Below.refl _ _⟩
  have hpos : 0 < s.size := by omega
  have g0 : s.data.toList.getD 0 0 = s[0] := by
    rw [List.getD_eq_getElem?_getD, List.getElem?_eq_getElem (by omega)]
    rfl
  have hcons : ∃ l, s.data.toList = s[0] :: l ∧ l.length + 1 = s.size := by
    refine ⟨s.data.toList.drop 1, ?_, by simp [hl]; omega⟩
    have h := List.drop_eq_getElem_cons (l := s.data.toList) (i := 0) (by omega)
    rw [List.drop_zero] at h
    exact h
  have hne : s.data.toList ≠ [] := by
    intro h
    rw [h] at hl
    simp at hl
    omega
  have q0 : ((s.size : Int) == 0) = false := by rw [beq_eq_false_iff_ne]; omega
  rw [g0, hl] at RR
  have HC := hide hcons
  have HN := hide hne
  clear hcons g0 hl he hne
  by_cases hz : s[0] = 48 ∧ 1 < s.size
  · obtain ⟨z1, z2⟩ := hz
    have Rn := hide (show R = (0, 4) by
      rw [RR.out]
      cases rd b s.data.toList 0 false with
      | none => rfl
      | some r =>
        obtain ⟨n, o⟩ := r
        exact if_pos (.inr ⟨z1, z2⟩))
    have k1 : (((s[0]).toNat : Int) == 48) = true := by rw [z1]; decide
    clear RR HC HN G
    go_enter Try.func29, Try.ntmps29
    go_wp2_with fail
    go_ret2
    exact ⟨by rw [Rn.out]; rfl, Below.refl _ _⟩
  · have hzz := hide hz
    by_cases h1 : 1 < s.size
    · have hz1 : s[0] ≠ 48 := fun h => hz ⟨h, h1⟩
      have HZ := hide hz1
      have k1 : (((s[0]).toNat : Int) == 48) = false := by
        rw [beq_eq_false_iff_ne]
        intro h
        apply hz1
        apply UInt8.toNat_inj.1
        show (s[0]).toNat = 48
        omega
      clear hz hz1
      go_enter Try.func29, Try.ntmps29
      go_wp2_with fail
      go_loopw [6, 7] (RRIn b s w) (fun _ i _ => 100000 - (intOf i).toNat)
      case atStart => exact ⟨0, 0, false, by omega, rfl, rfl, by omega, rfl, rfl⟩
      case round =>
        obtain ⟨k, n, o, hk, rfl, rfl, hn, hR, rfl⟩ := hrel
        have HR := hide hR
        clear hR
        by_cases hlt : k < s.size
        · have hd : s.data.toList.drop k = s[k] :: s.data.toList.drop (k + 1) := by
            have hl : k < s.data.toList.length := by simpa using hlt
            rw [List.drop_eq_getElem_cons hl]
            rfl
          have F := hide (rvalue_any s[k])
          have hst := hide (show rd b (s.data.toList.drop k) n o = if b ≤ dU s[k] then none else rd b (s.data.toList.drop (k + 1)) ((n * b + dU s[k]) % 18446744073709551616) (o || decide ((18446744073709551615 - dU s[k]) / b < n)) by rw [hd]; rfl)
          clear hd
          by_cases hbd : b ≤ dU s[k]
          · have Rn := hide (show R = (0, 4) by
              rw [RR.out, ← HR.out, hst.out, if_pos hbd])
            have e1 : rv s[k] = (if dU s[k] < 16 then (dU s[k] : Int) else 99) := rfl
            have e2 : (b : Int) ≤ rv s[k] := by rw [e1]; split <;> omega
            have e3 : 0 ≤ rv s[k] ∧ rv s[k] ≤ 99 := by rw [e1]; split <;> omega
            obtain ⟨e4, e5⟩ := e3
            clear e1 hbd hst HR RR k1
            generalize rv s[k] = v at *
            go_wp2_with fail
            refine (F.out _).mono ?_
            rintro e w' ⟨rfl, rfl⟩
            go_wp2_with fail
            go_ret2
            exact ⟨by rw [Rn.out]; rfl, Below.refl _ _⟩
          · have hst2 := hst.out
            rw [if_neg hbd] at hst2
            have e1 : rv s[k] = (dU s[k] : Int) := if_pos (by omega)
            rw [e1] at F
            have hw : IntKind.u64.wrap (IntKind.u64.wrap ((n : Int) * (b : Int)) + (dU s[k] : Int)) = (((n * b + dU s[k]) % 18446744073709551616 : Nat) : Int) := by
              rw [IntKind.wrap_u64, IntKind.wrap_u64]
              have : ((n * b : Nat) : Int) = (n : Int) * (b : Int) := by simp
              rw [← this]
              omega
            have hm : (n * b + dU s[k]) % 18446744073709551616 < 18446744073709551616 := Nat.mod_lt _ (by omega)
            have Hst := hide hst2
            clear hst hst2 e1
            generalize (n * b + dU s[k]) % 18446744073709551616 = m at *
            generalize (o || decide ((18446744073709551615 - dU s[k]) / b < n)) = o2 at *
            generalize dU s[k] = d at *
            have hd16 : d < 16 := by omega
            go_wp2_with fail
            refine (F.out _).mono ?_
            rintro e w' ⟨rfl, rfl⟩
            go_wp2_with fail
            go_roundw
            case rel => exact ⟨k + 1, m, o2, by omega, by go_num, rfl, hm, by rw [← Hst.out, HR.out], rfl⟩
            case measure => simp [intOf]; omega
        · have hfin : rd b s.data.toList 0 false = some (n, o) := by
            rw [← HR.out, List.drop_of_length_le (by show s.data.toList.length ≤ k; rw [Array.length_toList]; show s.size ≤ k; omega)]
            rfl
          have hR2 := RR.out
          rw [hfin] at hR2
          simp only at hR2
          obtain ⟨l, hc1, hc2⟩ := HC.out
          have ho : o = greatB b s.data.toList := by
            rw [hc1] at hfin ⊢
            exact rd_great b hb hfin (.inr HZ.out)
          rw [if_neg (by
            rintro (h | h)
            · exact HN.out h
            · exact hzz.out h)] at hR2
          rw [← ho] at G
          have H2 := hide hR2
          clear RR HR hR2 hfin hc1 ho HC HN k1
          cases o
          · go_wp2_with fail
            refine (G.out _).mono ?_
            rintro e w1 ⟨rfl, hb1⟩
            go_wp2_with fail
            go_ret2
            exact ⟨by rw [H2.out]; rfl, hb1⟩
          · go_wp2_with fail
            refine (G.out _).mono ?_
            rintro e w1 ⟨rfl, hb1⟩
            go_wp2_with fail
            go_ret2
            exact ⟨by rw [H2.out]; rfl, hb1⟩
    · have HL := hide (show ∀ l : List UInt8, l.length + 1 = s.size → l = [] from fun l h => List.eq_nil_of_length_eq_zero (by omega))
      have hl1 : s.size ≤ 1 := by omega
      clear hz h1
      go_enter Try.func29, Try.ntmps29
      go_wp2_with fail
      go_loopw [6, 7] (RRIn b s w) (fun _ i _ => 100000 - (intOf i).toNat)
      case atStart => exact ⟨0, 0, false, by omega, rfl, rfl, by omega, rfl, rfl⟩
      case round =>
        obtain ⟨k, n, o, hk, rfl, rfl, hn, hR, rfl⟩ := hrel
        have HR := hide hR
        clear hR
        by_cases hlt : k < s.size
        · have hd : s.data.toList.drop k = s[k] :: s.data.toList.drop (k + 1) := by
            have hl : k < s.data.toList.length := by simpa using hlt
            rw [List.drop_eq_getElem_cons hl]
            rfl
          have F := hide (rvalue_any s[k])
          have hst := hide (show rd b (s.data.toList.drop k) n o = if b ≤ dU s[k] then none else rd b (s.data.toList.drop (k + 1)) ((n * b + dU s[k]) % 18446744073709551616) (o || decide ((18446744073709551615 - dU s[k]) / b < n)) by rw [hd]; rfl)
          clear hd
          by_cases hbd : b ≤ dU s[k]
          · have Rn := hide (show R = (0, 4) by
              rw [RR.out, ← HR.out, hst.out, if_pos hbd])
            have e1 : rv s[k] = (if dU s[k] < 16 then (dU s[k] : Int) else 99) := rfl
            have e2 : (b : Int) ≤ rv s[k] := by rw [e1]; split <;> omega
            have e3 : 0 ≤ rv s[k] ∧ rv s[k] ≤ 99 := by rw [e1]; split <;> omega
            obtain ⟨e4, e5⟩ := e3
            clear e1 hbd hst HR RR hl1
            generalize rv s[k] = v at *
            go_wp2_with fail
            refine (F.out _).mono ?_
            rintro e w' ⟨rfl, rfl⟩
            go_wp2_with fail
            go_ret2
            exact ⟨by rw [Rn.out]; rfl, Below.refl _ _⟩
          · have hst2 := hst.out
            rw [if_neg hbd] at hst2
            have e1 : rv s[k] = (dU s[k] : Int) := if_pos (by omega)
            rw [e1] at F
            have hw : IntKind.u64.wrap (IntKind.u64.wrap ((n : Int) * (b : Int)) + (dU s[k] : Int)) = (((n * b + dU s[k]) % 18446744073709551616 : Nat) : Int) := by
              rw [IntKind.wrap_u64, IntKind.wrap_u64]
              have : ((n * b : Nat) : Int) = (n : Int) * (b : Int) := by simp
              rw [← this]
              omega
            have hm : (n * b + dU s[k]) % 18446744073709551616 < 18446744073709551616 := Nat.mod_lt _ (by omega)
            have Hst := hide hst2
            clear hst hst2 e1
            generalize (n * b + dU s[k]) % 18446744073709551616 = m at *
            generalize (o || decide ((18446744073709551615 - dU s[k]) / b < n)) = o2 at *
            generalize dU s[k] = d at *
            have hd16 : d < 16 := by omega
            go_wp2_with fail
            refine (F.out _).mono ?_
            rintro e w' ⟨rfl, rfl⟩
            go_wp2_with fail
            go_roundw
            case rel => exact ⟨k + 1, m, o2, by omega, by go_num, rfl, hm, by rw [← Hst.out, HR.out], rfl⟩
            case measure => simp [intOf]; omega
        · have hfin : rd b s.data.toList 0 false = some (n, o) := by
            rw [← HR.out, List.drop_of_length_le (by show s.data.toList.length ≤ k; rw [Array.length_toList]; show s.size ≤ k; omega)]
            rfl
          have hR2 := RR.out
          rw [hfin] at hR2
          simp only at hR2
          obtain ⟨l, hc1, hc2⟩ := HC.out
          have ho : o = greatB b s.data.toList := by
            rw [hc1] at hfin ⊢
            exact rd_great b hb hfin (.inl (HL.out l hc2))
          rw [if_neg (by
            rintro (h | h)
            · exact HN.out h
            · exact hzz.out h)] at hR2
          rw [← ho] at G
          have H2 := hide hR2
          clear RR HR hR2 hfin hc1 ho HC HN hl1
          cases o
          · go_wp2_with fail
            refine (G.out _).mono ?_
            rintro e w1 ⟨rfl, hb1⟩
            go_wp2_with fail
            go_ret2
            exact ⟨by rw [H2.out]; rfl, hb1⟩
          · go_wp2_with fail
            refine (G.out _).mono ?_
            rintro e w1 ⟨rfl, hb1⟩
            go_wp2_with fail
            go_ret2
            exact ⟨by rw [H2.out]; rfl, hb1⟩
end Go.Proofs.Ythpgoglhccoeeaa
