/-
  The Go function HandleBack.
-/
import Derived.Test.YthpgoglhccoeeaaHdlC
import Derived.Lib.Strings
import Derived.Lib.SmallJoins
namespace Go.Proofs.Ythpgoglhccoeeaa
open Go.RowKit

theorem ix_none {q : UInt8} : ∀ {l : List UInt8}, (∀ c ∈ l, c ≠ q) → Lib.indexByte l q = -1
  | [], _ => rfl
  | b :: l, h => by
    have h1 : (b == q) = false := by simpa using h b (by simp)
    unfold Lib.indexByte
    rw [h1, ix_none (fun c hc => h c (by simp [hc]))]
    rfl
theorem ix_app {q : UInt8} {m : List UInt8} : ∀ {l : List UInt8}, (∀ c ∈ l, c ≠ q) → Lib.indexByte (l ++ q :: m) q = l.length
  | [], _ => by
    show (if (q == q) = true then (0 : Int) else _) = _
    simp
  | b :: l, h => by
    have h1 : (b == q) = false := by simpa using h b (by simp)
    have h2 := ix_app (q := q) (m := m) (fun c hc => h c (by simp [hc]) : ∀ c ∈ l, c ≠ q)
    show (if (b == q) = true then (0 : Int) else if (Lib.indexByte (l ++ q :: m) q == -1) = true then -1 else Lib.indexByte (l ++ q :: m) q + 1) = _
    have h3 : (((l.length : Nat) : Int) == -1) = false := by rw [beq_eq_false_iff_ne]; omega
    rw [h1, h2, h3]
    simp
theorem formL_all (b : Nat) (hb : 2 ≤ b ∧ b ≤ 16) : ∀ (f n : Nat) (acc : List Int), (∀ c ∈ acc, byt c ≠ 58) → ∀ c ∈ formL b f n acc, byt c ≠ 58
  | 0, _, acc, h => h
  | f + 1, n, acc, h => by
    show ∀ c ∈ (if n = 0 then acc else formL b f (n / b) (digC (n % b) :: acc)), byt c ≠ 58
    by_cases h0 : n = 0
    · rw [if_pos h0]
      exact h
    · rw [if_neg h0]
      have hd : n % b < b := Nat.mod_lt _ (by omega)
      refine formL_all b hb f (n / b) _ fun c hc => ?_
      rcases List.mem_cons.1 hc with rfl | hc
      · generalize n % b = d at *
        have hd : d = 0 ∨ d = 1 ∨ d = 2 ∨ d = 3 ∨ d = 4 ∨ d = 5 ∨ d = 6 ∨ d = 7 ∨ d = 8 ∨ d = 9 ∨ d = 10 ∨ d = 11 ∨ d = 12 ∨ d = 13 ∨ d = 14 ∨ d = 15 := by omega
        rcases hd with rfl | rfl | rfl | rfl | rfl | rfl | rfl | rfl | rfl | rfl | rfl | rfl | rfl | rfl | rfl | rfl
        all_goals decide
      · exact h c hc
theorem form_all (n : Nat) : ∀ c ∈ (form 10 n).map byt, c ≠ 58 := by
  intro c hc
  obtain ⟨x, hx, rfl⟩ := List.mem_map.1 hc
  unfold form at hx
  by_cases h0 : n = 0
  · rw [if_pos h0] at hx
    simp only [List.mem_cons, List.not_mem_nil, or_false] at hx
    rw [hx]
    decide
  · rw [if_neg h0] at hx
    exact formL_all 10 (by omega) 64 n [] (fun c hc => by simp at hc) x hx

def joinC (m n : Nat) : ByteArray := (strOfNums (form 10 m) ++ ⟨#[58]⟩) ++ strOfNums (form 10 n)
theorem joinC_list (m n : Nat) : (joinC m n).data.toList = (form 10 m).map byt ++ 58 :: (form 10 n).map byt := by
  unfold joinC
  rw [Joins.data_append, Joins.data_append, strOf_list, strOf_list]
  simp
theorem joinC_size (m n : Nat) : (joinC m n).size = (form 10 m).length + 1 + (form 10 n).length := by
  rw [Lib.size_eq, joinC_list]
  simp
  omega
theorem joinC_colon (m n : Nat) : colon (joinC m n) = ((form 10 m).length : Nat) := by
  unfold colon
  rw [joinC_list, ix_app (form_all m)]
  simp
theorem joinC_left (m n : Nat) : (joinC m n).extract 0 (form 10 m).length = strOfNums (form 10 m) := by
  apply ByteArray.ext
  apply Array.toList_inj.1
  rw [Lib.extract_data, joinC_list, strOf_list]
  simp
theorem joinC_right (m n : Nat) : (joinC m n).extract ((form 10 m).length + 1) (joinC m n).size = strOfNums (form 10 n) := by
  apply ByteArray.ext
  apply Array.toList_inj.1
  rw [Lib.extract_data, joinC_list, strOf_list, joinC_size]
  have e : List.drop ((form 10 m).length + 1) ((form 10 m).map byt ++ 58 :: (form 10 n).map byt) = (form 10 n).map byt := by
    rw [List.drop_append]
    simp
  rw [e]
  exact List.take_of_length_le (by simp)
theorem joinC_colon2 (n : Nat) : colon (strOfNums (form 10 n)) = -1 := by
  unfold colon
  rw [strOf_list]
  exact ix_none (form_all n)

/-- A handle that was made comes back from its text. -/
theorem hback (m n : Nat) (w : World) (hm : 1 ≤ m ∧ m ≤ 65535) (hn : n ≤ 16777215) :
    Calls Try.prog 16 #[.string (joinC m n)] w fun e w' => e = .returned (.tuple #[.int .u64 (hmk n m), .int .i64 0]) ∧ Below w.heap.size w w' := by
  have l1 := form_len 10 m
  have l2 := form_len 10 n
  refine hparse_ok (joinC m n) (form 10 m).length m n w (by rw [joinC_size]; omega) (by rw [joinC_size]; omega) (joinC_colon m n) (by rw [joinC_right]; exact joinC_colon2 n) (by rw [joinC_left]; exact rdRes_form 10 m (by omega) (by omega)) (by rw [joinC_right]; exact rdRes_form 10 n (by omega) (by omega)) hm hn

set_option maxHeartbeats 1000000 in
theorem HandleBack_calls (gen slot : Int) (w : World) (hg : W64 gen) (hs : I64 slot) :
    Calls Try.prog 5 #[.int .u64 gen, .int .i64 slot] w fun e w' => e = .returned (.bool true) ∧ Below w.heap.size w w' := by
  have M := hide (fun w => hmake_any gen slot w hg hs)
  have Aw := hide awake03
  obtain ⟨h1, h2⟩ := hs
  obtain ⟨g1, g2⟩ := hg
  by_cases c1 : slot < 1
  · rw [show hmk gen slot = 0 from if_pos (.inl c1)] at M
    go_enter Try.func5, Try.ntmps5
    go_wp2_with fail
    refine (M.out _).mono ?_
    rintro e w' ⟨rfl, rfl⟩
    go_wp2_with fail
    refine (Aw.out _).mono ?_
    rintro e w1 ⟨rfl, hb1⟩
    go_wp2_with fail
    go_ret
    exact ⟨rfl, hb1⟩
  by_cases c2 : 65535 < slot
  · rw [show hmk gen slot = 0 from if_pos (.inr c2)] at M
    have c3 : 1 ≤ slot := by omega
    clear c1
    go_enter Try.func5, Try.ntmps5
    go_wp2_with fail
    refine (M.out _).mono ?_
    rintro e w' ⟨rfl, rfl⟩
    go_wp2_with fail
    refine (Aw.out _).mono ?_
    rintro e w1 ⟨rfl, hb1⟩
    go_wp2_with fail
    go_ret
    exact ⟨rfl, hb1⟩
  obtain ⟨m, hm⟩ := Int.eq_ofNat_of_zero_le (show 0 ≤ slot by omega)
  obtain ⟨n, hn⟩ := Int.eq_ofNat_of_zero_le (show 0 ≤ gen % 16777216 by omega)
  have eh : hmk gen slot = (n : Int) * 65536 + m := by
    unfold hmk
    rw [if_neg (by omega), hn, hm]
  have hn2 : n ≤ 16777215 := by omega
  have hm2 : 1 ≤ m ∧ m ≤ 65535 := by omega
  have hb : W64 ((n : Int) * 65536 + m) := ⟨by omega, by omega⟩
  have T := hide (fun w => htext_any ((n : Int) * 65536 + m) w hb)
  have es : hsl ((n : Int) * 65536 + m) = slot := by unfold hsl; omega
  have eg : hgn ((n : Int) * 65536 + m) = gen % 16777216 := by unfold hgn; omega
  have et : htx ((n : Int) * 65536 + m) = joinC m n := by
    unfold htx joinC
    rw [es, eg, hm, hn, Int.toNat_natCast, Int.toNat_natCast]
  rw [et] at T
  have P := hide (fun w => hback m n w hm2 hn2)
  have ek : hmk (n : Int) (m : Int) = (n : Int) * 65536 + m := by
    unfold hmk
    rw [if_neg (by omega)]
    omega
  rw [ek] at P
  have Sl := hide (fun w => hslot_any ((n : Int) * 65536 + m) w hb)
  rw [es] at Sl
  have Gn := hide (fun w => hgen_any ((n : Int) * 65536 + m) w hb)
  rw [eg] at Gn
  have R := hide (fun w => hright_any ((n : Int) * 65536 + m) slot w hb)
  rw [show hrt ((n : Int) * 65536 + m) slot = true by
    unfold hrt
    rw [es]
    simp
    omega] at R
  rw [eh] at M
  have t1 : gen.tmod 16777216 = gen % 16777216 := Int.tmod_eq_emod_of_nonneg g1
  have c3 : 1 ≤ slot := by omega
  have c4 : slot ≤ 65535 := by omega
  clear eh es eg et ek hb hm hn c1 c2 hn2 hm2
  generalize joinC m n = s at *
  generalize (n : Int) * 65536 + m = h at *
  generalize gen % 16777216 = q at *
  go_enter Try.func5, Try.ntmps5
  go_wp2_with fail
  refine (M.out _).mono ?_
  rintro e w' ⟨rfl, rfl⟩
  go_wp2_with fail
  refine (T.out _).mono ?_
  rintro e w1 ⟨rfl, hb1⟩
  go_wp2_with fail
  refine (P.out _).mono ?_
  rintro e w2 ⟨rfl, hb2⟩
  go_wp2_with fail
  refine (Sl.out _).mono ?_
  rintro e w' ⟨rfl, rfl⟩
  go_wp2_with fail
  refine (Gn.out _).mono ?_
  rintro e w' ⟨rfl, rfl⟩
  go_wp2_with fail
  refine (R.out _).mono ?_
  rintro e w' ⟨rfl, rfl⟩
  go_wp2_with fail
  refine (Aw.out _).mono ?_
  rintro e w3 ⟨rfl, hb3⟩
  go_wp2_with fail
  go_ret
  have B2 := hb1.trans (hb2.mono hb1.size)
  exact ⟨rfl, B2.trans (hb3.mono B2.size)⟩
end Go.Proofs.Ythpgoglhccoeeaa
