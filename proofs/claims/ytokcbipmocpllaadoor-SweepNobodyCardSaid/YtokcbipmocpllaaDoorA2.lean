/-
  strings.Fields on bytes below 128: the kit's worked walk (NmFields), turned to this program's numbers.
-/
import Derived.Test.YtokcbipmocpllaaDoorA1
import Derived.Lib.FieldsLaws
import Derived.Lib.SplitLaws
import Derived.Lib.Walk
import Derived.Laws.Strings3
import Derived.WalkKit
import Derived.Deep.OwnRows
import Derived.Deep.LoopGhost
import Derived.Deep.CutBlock
import Derived.Deep.QuietTactic
import Derived.BigQuiet
import Derived.Deep.MidRow
import Derived.Deep.RegionLawGrows
namespace Go.Proofs.YtokcbipmocpllaaDoor
open Go.RowKit

theorem infoStr : (Tryd.prog.info? 9).map (fun i => (i.zero, i.size, i.bytes)) = some (some (.string ByteArray.empty), 1, 16) := by kernel_rfl

theorem andNot00 : bits .and .i64 0 (bits .xor .i64 (-1) 0) = 0 := by decide
theorem andNot01 : bits .and .i64 0 (bits .xor .i64 (-1) 1) = 0 := by decide
theorem andNot10 : bits .and .i64 1 (bits .xor .i64 (-1) 0) = 1 := by decide
theorem andNot11 : bits .and .i64 1 (bits .xor .i64 (-1) 1) = 0 := by decide

set_option maxHeartbeats 16000000 in
set_option maxRecDepth 1000000 in
theorem fields_any (s : ByteArray) (w : World) (hs : s.size < 4294967281) (hascii : ∀ (j : Nat) b, s.data.toList[j]? = some b → b.toNat < 128)
    (hT : ∀ c : Nat, c < 256 → w.cell? ⟨0, c, none⟩ = some (.int .u8 (if Lib.isSp (UInt8.ofNat c) then 1 else 0))) :
    Calls Tryd.prog 86 #[.string s] w fun e w' =>
      e = .returned (.slice (some ⟨w.heap.size, 0, none⟩) (Lib.fields s.data.toList).length (Lib.fields s.data.toList).length) ∧ w' = w.alloc (.cells ((Lib.fields s.data.toList).map fun l => Value.string ⟨l.toArray⟩).toArray 9) := by
  have HA : Aside (∀ (j : Nat) b, s.data.toList[j]? = some b → b.toNat < 128) := hascii
  have HT : Aside (∀ c : Nat, c < 256 → w.cell? ⟨0, c, none⟩ = some (.int .u8 (if Lib.isSp (UInt8.ofNat c) then 1 else 0))) := hT
  have HT1 : Aside (∀ (o : Obj) (c : Nat), c < 256 → (w.alloc o).cell? ⟨0, c, none⟩ = some (.int .u8 (if Lib.isSp (UInt8.ofNat c) then 1 else 0))) := fun o c hc => by
    rw [World.cell?_alloc_old _ _ _ (Nat.ne_of_lt (World.block_lt_of_cell? _ _ (hT c hc)))]; exact hT c hc
  clear hascii hT
  obtain ⟨N, hN⟩ : ∃ N : Nat, (Lib.fields s.data.toList).length = N := ⟨_, rfl⟩
  rw [hN]
  have hNc : Lib.cntF true s.data.toList = N := by rw [← Lib.fields_length]; exact hN
  have hlen : s.data.toList.length = s.size := (Lib.size_eq s).symm
  go_enter Tryd.func86, Tryd.ntmps86
  go_wp2
  go_loopg [3, 4, 5, 6] s.size (fun g s3 s4 s5 s6 wx => w = wx ∧ ∃ (k nn sb : Nat) (ws : Bool), k ≤ s.size ∧ g = s.size - k ∧ s6 = .int .i64 k ∧ s3 = .int .i64 nn ∧ s4 = .int .i64 (if ws then 1 else 0) ∧ s5 = .int .u8 sb ∧ sb < 128 ∧ nn ≤ k ∧
    nn + Lib.cntF ws (s.data.toList.drop k) = N)
  case atStart => exact ⟨rfl, 0, 0, 0, true, Nat.zero_le _, rfl, rfl, rfl, rfl, rfl, by omega, Nat.le_refl _, by simpa using hNc⟩
  case round =>
    obtain ⟨rfl, k, nn, sb, ws, hk, rfl, rfl, rfl, rfl, rfl, hsb, hnk, hc⟩ := hrel
    by_cases hkn : k < s.size
    · have hkz : (k : Int) < (s.size : Int) := by omega
      obtain ⟨x, hx⟩ : ∃ x : UInt8, s[k] = x := ⟨_, rfl⟩
      have hxl : s.data.toList[k]? = some x := by rw [← hx]; exact Lib.data_getElem? s k hkn
      have hx128 : x.toNat < 128 := HA.out k x hxl
      have hxz : (x.toNat : Int) < 256 := by omega
      have hTx : w.cell? ⟨0, x.toNat, none⟩ = some (.int .u8 (if Lib.isSp x then 1 else 0)) := by have := HT.out x.toNat (by omega); simpa using this
      have hor : bits .or .u8 (sb : Int) (x.toNat : Int) = ((sb ||| x.toNat : Nat) : Int) := u8_or_nat _ _ (by omega) (by omega)
      have hor128 : sb ||| x.toNat < 128 := Nat.or_lt_two_pow (n := 7) hsb hx128
      rw [Lib.drop_at hxl, Lib.cntF_step] at hc
      have HC : Aside (nn + ((if ws && !Lib.isSp x then 1 else 0) + Lib.cntF (Lib.isSp x) (s.data.toList.drop (k + 1))) = N) := hc
      clear hc hxl
      have b00 := andNot00; have b01 := andNot01; have b10 := andNot10; have b11 := andNot11
      cases hsx : Lib.isSp x <;> cases ws <;> rw [hsx] at hTx <;> simp only [if_true, Bool.false_eq_true, if_false] at hTx ⊢ <;>
        (go_wp2
         go_roundg (s.size - (k + 1))
         case measure => omega
         case rel =>
           have hc := HC.out
           rw [hsx] at hc
           simp at hc
           first
             | exact ⟨rfl, k + 1, nn, sb ||| x.toNat, false, by omega, rfl, by first | rfl | simp, by first | rfl | (simp; unfold RowKit.wrap64; omega), rfl, by first | rfl | simp, hor128, by omega, by omega⟩
             | exact ⟨rfl, k + 1, nn + 1, sb ||| x.toNat, false, by omega, rfl, by first | rfl | simp, by first | rfl | (simp; unfold RowKit.wrap64; omega), rfl, by first | rfl | simp, hor128, by omega, by omega⟩
             | exact ⟨rfl, k + 1, nn, sb ||| x.toNat, true, by omega, rfl, by first | rfl | simp, by first | rfl | (simp; unfold RowKit.wrap64; omega), rfl, by first | rfl | simp, hor128, by omega, by omega⟩)
    · obtain rfl : k = s.size := by omega
      generalize (if ws = true then (1 : Int) else 0) = v4
      have hkz : ¬ ((s.size : Int) < (s.size : Int)) := by omega
      have hsbz : ¬ ((128 : Int) ≤ (sb : Int)) := by omega
      obtain rfl : N = nn := by rw [← hlen, List.drop_length] at hc; simpa [Lib.cntF] using hc.symm
      clear hc
      have hmk := run_make_row' (P := Tryd.prog) 111 9 (.string ByteArray.empty) 16 Tryd.underlying111 infoStr rfl .i64 .i64 N (by omega) (by omega)
      go_upto_block 2 with fail
      clear hmk
      rw [← Lib.cellsOf_nil]
      go_cut [12] from 42 to 55 (fun s12 wx => (w.alloc (.cells (Lib.cellsOf [] N) 9)) = wx ∧ ∃ i : Nat, i ≤ s.size ∧ s12 = .int .i64 i ∧ Lib.fieldsGo [] (s.data.toList.drop i) = Lib.fields s.data.toList ∧ ∀ y, s.data.toList[i]? = some y → Lib.isSp y = false)
      case first =>
        go_wp2_with fail
        go_loopg [12] s.size (fun g s12 wx => (w.alloc (.cells (Lib.cellsOf [] N) 9)) = wx ∧ ∃ i : Nat, i ≤ s.size ∧ g = s.size - i ∧ s12 = .int .i64 i ∧ Lib.fieldsGo [] (s.data.toList.drop i) = Lib.fields s.data.toList)
        case atStart => exact ⟨rfl, 0, Nat.zero_le _, rfl, rfl, rfl⟩
        case round =>
          obtain ⟨rfl, i, hi, rfl, rfl, hf⟩ := hrel
          have HF : Aside (Lib.fieldsGo [] (s.data.toList.drop i) = Lib.fields s.data.toList) := hf
          clear hf
          by_cases hin : i < s.size
          · have hiz : (i : Int) < (s.size : Int) := by omega
            obtain ⟨x, hx⟩ : ∃ x : UInt8, s[i] = x := ⟨_, rfl⟩
            have hxl : s.data.toList[i]? = some x := by rw [← hx]; exact Lib.data_getElem? s i hin
            have hx128 : x.toNat < 128 := HA.out i x hxl
            have hxz : (x.toNat : Int) < 256 := by omega
            have hTx : (w.alloc (.cells (Lib.cellsOf [] N) 9)).cell? ⟨0, x.toNat, none⟩ = some (.int .u8 (if Lib.isSp x then 1 else 0)) := by have := HT1.out (.cells (Lib.cellsOf [] N) 9) x.toNat (by omega); simpa using this
            have Hx : Aside (s.data.toList[i]? = some x) := hxl
            clear hxl
            cases hsx : Lib.isSp x <;> rw [hsx] at hTx <;> simp only [if_true, Bool.false_eq_true, if_false] at hTx
            · go_wp2
              go_meet
              exact ⟨rfl, i, hi, rfl, HF.out, fun y hy => by rw [Hx.out] at hy; cases hy; exact hsx⟩
            · go_wp2
              go_roundg (s.size - (i + 1))
              case measure => omega
              case rel => exact ⟨rfl, i + 1, by omega, rfl, by first | rfl | simp, by rw [← HF.out, Lib.drop_at Hx.out, Lib.fieldsGo_sp _ _ hsx]⟩
          · obtain rfl : i = s.size := by omega
            have hiz : ¬ ((s.size : Int) < (s.size : Int)) := by omega
            go_wp2
            go_meet
            exact ⟨rfl, s.size, Nat.le_refl _, rfl, HF.out, fun y hy => by rw [List.getElem?_eq_none (by omega)] at hy; cases hy⟩
      case rest =>
        obtain ⟨rfl, i0, hi0, rfl, hf0, hns0⟩ := hcut
        have H0 : Aside (Lib.fieldsGo [] (s.data.toList.drop i0) = Lib.fields s.data.toList ∧ ∀ y, s.data.toList[i0]? = some y → Lib.isSp y = false) := ⟨hf0, hns0⟩
        clear hf0 hns0
        go_wp2
        go_loopg [10, 11, 12] (s.size - i0) (fun g s10 s11 s12 wx => ∃ (done : List ByteArray) (fs i : Nat), s10 = .int .i64 done.length ∧ s11 = .int .i64 fs ∧ s12 = .int .i64 i ∧ fs ≤ i ∧ i ≤ s.size ∧ g = s.size - i ∧ wx = (w.alloc (.cells (Lib.cellsOf done N) 9)) ∧
          done.map (·.data.toList) ++ Lib.fieldsGo ((s.data.toList.drop fs).take (i - fs)) (s.data.toList.drop i) = Lib.fields s.data.toList ∧ (fs = i → ∀ y, s.data.toList[i]? = some y → Lib.isSp y = false))
        case atStart => exact ⟨[], i0, i0, rfl, rfl, rfl, Nat.le_refl _, hi0, rfl, rfl, by rw [Lib.piece_nil]; exact H0.out.1, fun _ => H0.out.2⟩
        case round =>
          obtain ⟨done, fs, i, rfl, rfl, rfl, hfi, hi, rfl, rfl, hinv, hside⟩ := hrel
          clear H0
          by_cases hin : i < s.size
          · have hiz : (i : Int) < (s.size : Int) := by omega
            obtain ⟨x, hx⟩ : ∃ x : UInt8, s[i] = x := ⟨_, rfl⟩
            have hxl : s.data.toList[i]? = some x := by rw [← hx]; exact Lib.data_getElem? s i hin
            have hx128 : x.toNat < 128 := HA.out i x hxl
            have hxz : (x.toNat : Int) < 256 := by omega
            have hTx : (w.alloc (.cells (Lib.cellsOf done N) 9)).cell? ⟨0, x.toNat, none⟩ = some (.int .u8 (if Lib.isSp x then 1 else 0)) := by have := HT1.out (.cells (Lib.cellsOf done N) 9) x.toNat (by omega); simpa using this
            have Hx : Aside (s.data.toList[i]? = some x) := hxl
            clear hxl
            cases hsx : Lib.isSp x <;> rw [hsx] at hTx <;> simp only [if_true, Bool.false_eq_true, if_false] at hTx
            · -- a byte of a field: 'i++; continue'
              have HI : Aside (done.map (·.data.toList) ++ Lib.fieldsGo ((s.data.toList.drop fs).take (i - fs)) (s.data.toList.drop i) = Lib.fields s.data.toList) := hinv
              clear hinv hside
              go_wp2
              go_roundg (s.size - (i + 1))
              case measure => omega
              case rel => exact ⟨done, fs, i + 1, rfl, rfl, by first | rfl | simp, by omega, by omega, rfl, rfl, by rw [Lib.piece_more hfi Hx.out, ← Lib.fieldsGo_more _ _ _ hsx, ← Lib.drop_at Hx.out]; exact HI.out, fun h => by omega⟩
            · -- white space: the field ends here: 'a[na] = s[fieldStart:i]; na++; i++'
              have hlt : fs < i := by
                refine Nat.lt_of_le_of_ne hfi fun h => ?_
                have := hside h x Hx.out
                rw [hsx] at this
                cases this
              rw [Lib.drop_at Hx.out, Lib.fieldsGo_end _ _ _ hsx (Lib.piece_ne hlt (by omega))] at hinv
              have hdN : done.length < N := by
                have := congrArg List.length hinv
                rw [hN] at this
                simp at this
                omega
              have hnext : (Lib.cellsOf done N)[done.length]? = some (.string ByteArray.empty) := Lib.cellsOf_next hdN
              have hdz : ((done.length : Nat) : Int) < (N : Int) := by omega
              have c1 : (fs : Int) ≤ (i : Int) := by omega
              have c2 : (i : Int) ≤ (s.size : Int) := by omega
              have HI : Aside ((done ++ [s.extract fs i]).map (·.data.toList) ++ Lib.fieldsGo [] (s.data.toList.drop (i + 1)) = Lib.fields s.data.toList) := by
                show _ = _
                rw [← hinv, List.map_append, List.map_cons, List.map_nil, Lib.extract_data]
                simp
              clear hinv hside
              go_wp2
              rw [Lib.cellsOf_set hdN]
              clear hnext hTx
              go_loopg [12] (s.size - (i + 1)) (fun g s12 wx => (w.alloc (.cells (Lib.cellsOf (done ++ [s.extract fs i]) N) 9)) = wx ∧ ∃ j : Nat, i + 1 ≤ j ∧ j ≤ s.size ∧ g = s.size - j ∧ s12 = .int .i64 j ∧ Lib.fieldsGo [] (s.data.toList.drop j) = Lib.fieldsGo [] (s.data.toList.drop (i + 1)))
              case atStart => exact ⟨rfl, i + 1, Nat.le_refl _, by omega, rfl, by first | rfl | simp, rfl⟩
              case round =>
                obtain ⟨rfl, j, hij, hj, rfl, rfl, hfj⟩ := hrel
                have HJ : Aside (Lib.fieldsGo [] (s.data.toList.drop j) = Lib.fieldsGo [] (s.data.toList.drop (i + 1))) := hfj
                clear hfj hx Hx hx128 hxz hsx
                by_cases hjn : j < s.size
                · have hjz : (j : Int) < (s.size : Int) := by omega
                  obtain ⟨x, hx⟩ : ∃ x : UInt8, s[j] = x := ⟨_, rfl⟩
                  have hxl : s.data.toList[j]? = some x := by rw [← hx]; exact Lib.data_getElem? s j hjn
                  have hx128 : x.toNat < 128 := HA.out j x hxl
                  have hxz : (x.toNat : Int) < 256 := by omega
                  have hTx : (w.alloc (.cells (Lib.cellsOf (done ++ [s.extract fs i]) N) 9)).cell? ⟨0, x.toNat, none⟩ = some (.int .u8 (if Lib.isSp x then 1 else 0)) := by have := HT1.out (.cells (Lib.cellsOf (done ++ [s.extract fs i]) N) 9) x.toNat (by omega); simpa using this
                  have Hx : Aside (s.data.toList[j]? = some x) := hxl
                  clear hxl
                  cases hsx : Lib.isSp x <;> rw [hsx] at hTx <;> simp only [if_true, Bool.false_eq_true, if_false] at hTx
                  · go_wp2
                    go_roundg (s.size - j)
                    case measure => omega
                    case rel => exact ⟨done ++ [s.extract fs i], j, j, by simp, rfl, rfl, Nat.le_refl _, hj, rfl, rfl, by rw [Lib.piece_nil, HJ.out]; exact HI.out, fun _ y hy => by rw [Hx.out] at hy; cases hy; exact hsx⟩
                  · go_wp2
                    go_roundg (s.size - (j + 1))
                    case measure => omega
                    case rel => exact ⟨rfl, j + 1, by omega, by omega, rfl, by first | rfl | simp, by rw [← HJ.out, Lib.drop_at Hx.out, Lib.fieldsGo_sp _ _ hsx]⟩
                · obtain rfl : j = s.size := by omega
                  have hjz : ¬ ((s.size : Int) < (s.size : Int)) := by omega
                  go_wp2
                  go_roundg (s.size - s.size)
                  case measure => omega
                  case rel => exact ⟨done ++ [s.extract fs i], s.size, s.size, by simp, rfl, rfl, Nat.le_refl _, Nat.le_refl _, rfl, rfl, by rw [Lib.piece_nil, HJ.out]; exact HI.out, fun _ y hy => by rw [List.getElem?_eq_none (by omega)] at hy; cases hy⟩
          · -- the string's end: 'if fieldStart < len(s) { a[na] = s[fieldStart:] }; return a'
            obtain rfl : i = s.size := by omega
            have hiz : ¬ ((s.size : Int) < (s.size : Int)) := by omega
            rw [← hlen, List.drop_length, hlen] at hinv
            clear hside
            by_cases hfl : fs < s.size
            · have hflz : (fs : Int) < (s.size : Int) := by omega
              have hne := Lib.piece_ne (l := s.data.toList) hfl (by omega)
              have e1 : Lib.fieldsGo ((s.data.toList.drop fs).take (s.size - fs)) [] = [(s.data.toList.drop fs).take (s.size - fs)] := by
                cases hc : (s.data.toList.drop fs).take (s.size - fs) with
                | nil => exact absurd hc hne
                | cons _ _ => rfl
              rw [e1] at hinv
              have hfin : (done ++ [s.extract fs s.size]).map (·.data.toList) = Lib.fields s.data.toList := by rw [← hinv, List.map_append, List.map_cons, List.map_nil, Lib.extract_data]
              have hdN : done.length + 1 = N := by
                have := congrArg List.length hfin
                rw [hN] at this
                simpa using this
              have hnext : (Lib.cellsOf done N)[done.length]? = some (.string ByteArray.empty) := Lib.cellsOf_next (by omega)
              have hdz : ((done.length : Nat) : Int) < (N : Int) := by omega
              have HFin : Aside ((done ++ [s.extract fs s.size]).map (·.data.toList) = Lib.fields s.data.toList) := hfin
              clear hinv hfin e1 hne
              go_wp2
              go_ret
              refine ⟨rfl, ?_⟩
              rw [Lib.cellsOf_set (by omega), ← Lib.pieces_eq HFin.out, ← Lib.cellsOf_full]
              congr 3
              simp; omega
            · obtain rfl : fs = s.size := by omega
              have hflz : ¬ ((s.size : Int) < (s.size : Int)) := by omega
              rw [Lib.piece_nil] at hinv
              have hfin : done.map (·.data.toList) = Lib.fields s.data.toList := by simpa [Lib.fieldsGo] using hinv
              have hdN : done.length = N := by
                have := congrArg List.length hfin
                rw [hN] at this
                simpa using this
              have HFin : Aside (done.map (·.data.toList) = Lib.fields s.data.toList) := hfin
              clear hinv hfin
              go_wp2
              go_ret
              refine ⟨rfl, ?_⟩
              rw [← Lib.pieces_eq HFin.out, ← Lib.cellsOf_full, hdN]

end Go.Proofs.YtokcbipmocpllaaDoor

/-
  Layout, in plain numbers: which word stands where.
-/
namespace Go.Proofs.YtokcbipmocpllaaDoor

/-- A configuration that may be. -/
def cfgOk (s t f l p : Int) : Bool := decide (1 ≤ s ∧ s ≤ 1000 ∧ 1 ≤ t ∧ t ≤ 64 ∧ 4 ≤ f ∧ f ≤ 64 ∧ 1 ≤ l ∧ l ≤ 64 ∧ 1 ≤ p ∧ p ≤ 1048576)
theorem cfgOk_iff {s t f l p : Int} : cfgOk s t f l p = true ↔ (1 ≤ s ∧ s ≤ 1000 ∧ 1 ≤ t ∧ t ≤ 64 ∧ 4 ≤ f ∧ f ≤ 64 ∧ 1 ≤ l ∧ l ≤ 64 ∧ 1 ≤ p ∧ p ≤ 1048576) := by unfold cfgOk; simp

/-- How many words there are. -/
def laySize (s t f : Int) : Int := 3 + 3 * t + (s + 1) * (3 + 2 * f)
/-- A word's place. -/
def plc (s t f a : Int) : Int × Int × Int :=
  if a < 0 ∨ laySize s t f ≤ a then (0, 0, 0)
  else if a < 3 then (a + 1, 0, 0)
  else if a < 3 + t then (4, a - 3, 0)
  else if a < 3 + 3 * t then (5, (a - 3 - t) / 2, (a - 3 - t) % 2)
  else if (a - (3 + 3 * t)) % (3 + 2 * f) < 3 then (6 + (a - (3 + 3 * t)) % (3 + 2 * f), (a - (3 + 3 * t)) / (3 + 2 * f), 0)
  else if (a - (3 + 3 * t)) % (3 + 2 * f) < 3 + f then (9, (a - (3 + 3 * t)) / (3 + 2 * f), (a - (3 + 3 * t)) % (3 + 2 * f) - 3)
  else (10, (a - (3 + 3 * t)) / (3 + 2 * f), (a - (3 + 3 * t)) % (3 + 2 * f) - 3 - f)

/-- A node's word: its number within the node, and how many such there are; the number of a place's word. -/
def nodAt (f k : Int) : Int := if k = 6 then 0 else if k = 7 then 1 else if k = 8 then 2 else if k = 9 then 3 else 3 + f
def nodMany (f k : Int) : Int := if k = 9 ∨ k = 10 then f else 1
def nod (s t f k o i : Int) : Int :=
  if k < 6 ∨ 10 < k ∨ o < 0 ∨ s + 1 ≤ o ∨ i < 0 ∨ nodMany f k ≤ i then -1 else 3 + 3 * t + o * (3 + 2 * f) + nodAt f k + i
def atp (s t f k o i : Int) : Int :=
  if 1 ≤ k ∧ k ≤ 3 ∧ o = 0 ∧ i = 0 then k - 1
  else if k = 4 ∧ i = 0 ∧ 0 ≤ o ∧ o < t then 3 + o
  else if k = 5 ∧ 0 ≤ i ∧ i < 2 ∧ 0 ≤ o ∧ o < t then 3 + t + 2 * o + i
  else nod s t f k o i

theorem size_pos {s t f : Int} (hs : 1 ≤ s ∧ s ≤ 1000) (ht : 1 ≤ t ∧ t ≤ 64) (hf : 4 ≤ f ∧ f ≤ 64) : 3 + 3 * t < laySize s t f ∧ laySize s t f ≤ 131326 := by
  unfold laySize
  have h1 : 0 < (s + 1) * (3 + 2 * f) := Int.mul_pos (by omega) (by omega)
  have h2 : (s + 1) * (3 + 2 * f) ≤ 1001 * 131 := Int.mul_le_mul (by omega) (by omega) (by omega) (by omega)
  omega

/-- The parts of a number below a product. -/
theorem div_parts {d W n : Int} (hW : 0 < W) (h0 : 0 ≤ d) (h1 : d < n * W) : 0 ≤ d / W ∧ d / W < n ∧ 0 ≤ d % W ∧ d % W < W ∧ d = d / W * W + d % W := by
  have e := Int.mul_ediv_add_emod d W
  exact ⟨Int.ediv_nonneg h0 (by omega), Int.ediv_lt_of_lt_mul hW h1, Int.emod_nonneg _ (by omega), Int.emod_lt_of_pos _ hW, by rw [Int.mul_comm]; exact e.symm⟩
theorem div_back {o W j : Int} (h0 : 0 ≤ j) (h1 : j < W) : (o * W + j) / W = o ∧ (o * W + j) % W = j := by
  rw [Int.add_comm, Int.add_mul_ediv_right _ _ (by omega), Int.add_mul_emod_self_right]
  rw [Int.ediv_eq_zero_of_lt h0 h1, Int.emod_eq_of_lt h0 h1]
  exact ⟨by omega, rfl⟩

/-- Each word's place leads back to it. -/
theorem atp_plc {s t f a : Int} (hs : 1 ≤ s ∧ s ≤ 1000) (ht : 1 ≤ t ∧ t ≤ 64) (hf : 4 ≤ f ∧ f ≤ 64) :
    atp s t f (plc s t f a).1 (plc s t f a).2.1 (plc s t f a).2.2 = if a < 0 ∨ laySize s t f ≤ a then -1 else a := by
  have hz := size_pos hs ht hf
  unfold plc
  by_cases c0 : a < 0 ∨ laySize s t f ≤ a
  · rw [if_pos c0, if_pos c0]
    simp [atp, nod]
  rw [if_neg c0, if_neg c0]
  by_cases c1 : a < 3
  · rw [if_pos c1]
    unfold atp
    rw [if_pos (by simp; omega)]
    simp
  rw [if_neg c1]
  by_cases c2 : a < 3 + t
  · rw [if_pos c2]
    unfold atp
    rw [if_neg (by simp), if_pos (by simp; omega)]
    simp
    omega
  rw [if_neg c2]
  by_cases c3 : a < 3 + 3 * t
  · rw [if_pos c3]
    unfold atp
    rw [if_neg (by simp), if_neg (by simp), if_pos (by simp; omega)]
    simp
    omega
  rw [if_neg c3]
  have hd := div_parts (d := a - (3 + 3 * t)) (W := 3 + 2 * f) (n := s + 1) (by omega) (by omega) (by unfold laySize at c0; omega)
  generalize (a - (3 + 3 * t)) / (3 + 2 * f) = o at *
  generalize (a - (3 + 3 * t)) % (3 + 2 * f) = j at *
  obtain ⟨d1, d2, d3, d4, d5⟩ := hd
  by_cases c4 : j < 3
  · rw [if_pos c4]
    have hj : j = 0 ∨ j = 1 ∨ j = 2 := by omega
    unfold atp nod nodMany nodAt
    rw [if_neg (by simp; omega), if_neg (by simp; omega), if_neg (by simp; omega)]
    rcases hj with rfl | rfl | rfl
    all_goals
      simp
      rw [if_neg (by omega)]
      omega
  rw [if_neg c4]
  by_cases c5 : j < 3 + f
  · rw [if_pos c5]
    unfold atp nod nodMany nodAt
    simp
    rw [if_neg (by omega)]
    omega
  · rw [if_neg c5]
    unfold atp nod nodMany nodAt
    simp
    rw [if_neg (by omega)]
    omega
end Go.Proofs.YtokcbipmocpllaaDoor

/-
  Package config: all, check, Right; gleaningref07: Numbers, Wrong.
-/
namespace Go.Proofs.YtokcbipmocpllaaDoor
open Go.RowKit

/-- The numbers of a configuration, and their bounds. -/
def cN (s t f l p : Int) (k : Nat) : Int := [s, t, f, l, p].getD k 0
def cLo (k : Nat) : Int := [(1 : Int), 1, 4, 1, 1].getD k 0
def cHi (k : Nat) : Int := [(1000 : Int), 64, 64, 64, 1048576].getD k 0
def cIn (s t f l p : Int) (k : Nat) : Prop := cLo k ≤ cN s t f l p k ∧ cN s t f l p k ≤ cHi k
theorem five {k : Nat} (h : k < 5) : k = 0 ∨ k = 1 ∨ k = 2 ∨ k = 3 ∨ k = 4 := by omega
theorem cfg_all {s t f l p : Int} (h : ∀ k, k < 5 → cIn s t f l p k) : cfgOk s t f l p = true := by
  have h0 : 1 ≤ s ∧ s ≤ 1000 := h 0 (by omega)
  have h1 : 1 ≤ t ∧ t ≤ 64 := h 1 (by omega)
  have h2 : 4 ≤ f ∧ f ≤ 64 := h 2 (by omega)
  have h3 : 1 ≤ l ∧ l ≤ 64 := h 3 (by omega)
  have h4 : 1 ≤ p ∧ p ≤ 1048576 := h 4 (by omega)
  rw [cfgOk_iff]
  omega
theorem cfg_no {s t f l p : Int} {k : Nat} (hk : k < 5) (h : ¬ cIn s t f l p k) : cfgOk s t f l p = false := by
  rw [Bool.eq_false_iff]
  intro e
  rw [cfgOk_iff] at e
  apply h
  unfold cIn
  rcases five hk with rfl | rfl | rfl | rfl | rfl
  · show 1 ≤ s ∧ s ≤ 1000; omega
  · show 1 ≤ t ∧ t ≤ 64; omega
  · show 4 ≤ f ∧ f ≤ 64; omega
  · show 1 ≤ l ∧ l ≤ 64; omega
  · show 1 ≤ p ∧ p ≤ 1048576; omega

def I64s (s t f l p : Int) : Prop := I64 s ∧ I64 t ∧ I64 f ∧ I64 l ∧ I64 p
theorem cN_I64 {s t f l p : Int} (h : I64s s t f l p) {k : Nat} (hk : k < 5) : I64 (cN s t f l p k) := by
  obtain ⟨h0, h1, h2, h3, h4⟩ := h
  rcases five hk with rfl | rfl | rfl | rfl | rfl
  · exact h0
  · exact h1
  · exact h2
  · exact h3
  · exact h4
def bndA (s t f l p : Int) : Array Value := #[.int .i64 s, .int .i64 1, .int .i64 1000, .int .i64 t, .int .i64 1, .int .i64 64, .int .i64 f, .int .i64 4, .int .i64 64, .int .i64 l, .int .i64 1, .int .i64 64, .int .i64 p, .int .i64 1, .int .i64 1048576]
theorem bndA_at (s t f l p : Int) {k : Nat} (hk : k < 5) : (bndA s t f l p)[k * 3]? = some (.int .i64 (cN s t f l p k)) ∧ (bndA s t f l p)[k * 3 + 1]? = some (.int .i64 (cLo k)) ∧ (bndA s t f l p)[k * 3 + 2]? = some (.int .i64 (cHi k)) := by
  rcases five hk with rfl | rfl | rfl | rfl | rfl
  all_goals exact ⟨rfl, rfl, rfl⟩
def numA (s t f l p : Int) : Array Value := #[.int .i64 s, .int .i64 t, .int .i64 f, .int .i64 l, .int .i64 p]
theorem numA_at (s t f l p : Int) {k : Nat} (hk : k < 5) : (numA s t f l p)[k]? = some (.int .i64 (cN s t f l p k)) := by
  rcases five hk with rfl | rfl | rfl | rfl | rfl
  all_goals rfl
theorem lo_at {k : Nat} (hk : k < 5) : (numA 1 1 4 1 1)[k]? = some (.int .i64 (cLo k)) := by
  rcases five hk with rfl | rfl | rfl | rfl | rfl
  all_goals rfl
theorem hi_at {k : Nat} (hk : k < 5) : (numA 1000 64 64 64 1048576)[k]? = some (.int .i64 (cHi k)) := by
  rcases five hk with rfl | rfl | rfl | rfl | rfl
  all_goals rfl

set_option maxHeartbeats 400000 in
theorem call_any (s t f l p : Int) (w : World) :
    Calls Tryd.prog 87 #[.agg #[.int .i64 s, .int .i64 t, .int .i64 f, .int .i64 l, .int .i64 p]] w fun e w' => (∃ g, e = .returned (.slice (some ⟨g, 0, none⟩) 5 5) ∧ Blk w' g 116 (bndA s t f l p)) ∧ Below w.heap.size w w' := by
  go_enter Tryd.func87, Tryd.ntmps87
  go_wp2_with fail
  go_ret
  have h := fun o => Blk.new (w.alloc o) 116 (bndA s t f l p)
  simp only [World.size_alloc] at h
  exact ⟨⟨_, rfl, h _⟩, ((Below.refl _ _).alloc (Nat.le_refl _) _).alloc (by simp only [World.size_alloc]; omega) _⟩

def wordsB : ByteArray := ⟨#[115, 108, 111, 116, 115, 32, 116, 104, 114, 101, 97, 100, 115, 32, 102, 97, 110, 32, 108, 105, 109, 98, 111, 32, 112, 97, 116, 105, 101, 110, 99, 101]⟩
theorem fieldsW (w : World) (hT : Tab w) :
    Calls Tryd.prog 86 #[.string wordsB] w fun e w' => (∃ g cs, e = .returned (.slice (some ⟨g, 0, none⟩) 5 5) ∧ Blk w' g 9 cs ∧ ∀ k, k < 5 → ∃ x, cs[k]? = some (.string x)) ∧ Below w.heap.size w w' := by
  have hasc : ∀ (j : Nat) b, wordsB.data.toList[j]? = some b → b.toNat < 128 := by
    intro j b hb
    have hm := List.mem_of_getElem? hb
    have hall : (wordsB.data.toList.all fun b => decide (b.toNat < 128)) = true := by decide
    simpa using List.all_eq_true.1 hall b hm
  refine (fields_any wordsB w (by decide) hasc (fun c hc => hT.2 c hc)).mono ?_
  rintro e w' ⟨rfl, rfl⟩
  have hl : (Lib.fields wordsB.data.toList).length = 5 := by decide
  rw [hl]
  refine ⟨⟨_, _, rfl, Blk.new _ _ _, fun k hk => ?_⟩, (Below.refl _ _).alloc (Nat.le_refl _) _⟩
  have hk2 : k < (Lib.fields wordsB.data.toList).length := by omega
  exact ⟨_, by rw [List.getElem?_toArray, List.getElem?_map, List.getElem?_eq_getElem hk2]; rfl⟩

def ChkIn (w : World) (P : Nat → Prop) (i : Value) (wr : World) : Prop := ∃ k : Nat, i = .int .i64 k ∧ k ≤ 5 ∧ (∀ j, j < k → P j) ∧ Below w.heap.size w wr
/-- An error, or none. -/
def ErrIs (ok : Bool) (v : Value) : Prop := if ok = true then v = .nilIface else ∃ a, v = .iface 117 (.pointer (some a))

set_option maxHeartbeats 1000000 in
theorem check_any (s t f l p : Int) (w : World) (hT : Tab w) :
    Calls Tryd.prog 62 #[.agg #[.int .i64 s, .int .i64 t, .int .i64 f, .int .i64 l, .int .i64 p]] w fun e w' => (∃ v, e = .returned v ∧ ErrIs (cfgOk s t f l p) v) ∧ Below w.heap.size w w' := by
  have F := hide (fun w2 (hb : Below w.heap.size w w2) => fieldsW w2 (hT.below hb))
  have C := hide (fun w2 => call_any s t f l p w2)
  have bx := Blk.new w 36 #[.int .i64 s, .int .i64 t, .int .i64 f, .int .i64 l, .int .i64 p]
  go_enter Tryd.func62, Tryd.ntmps62
  go_wp2_with fail
  have B0 := (Below.refl w.heap.size w).alloc (Nat.le_refl _) (.cells #[.int .i64 s, .int .i64 t, .int .i64 f, .int .i64 l, .int .i64 p] 36)
  refine (F.out _ B0).mono ?_
  rintro e w1 ⟨⟨g1, cs, rfl, b1, hcs⟩, hb1⟩
  have B1 := B0.trans (hb1.mono B0.size)
  have bx1 := bx.below hb1 bx.lt
  have m1 := fun i => bx1.cell i
  have HCS := hide hcs
  have HB1 := hide b1
  clear hcs b1 hb1
  go_wp2_with fail
  refine (C.out _).mono ?_
  rintro e w2 ⟨⟨g2, rfl, b2⟩, hb2⟩
  have B2 := B1.trans (hb2.mono B1.size)
  have b1 := HB1.out.below hb2 HB1.out.lt
  have H1 := hide b1
  have H2 := hide b2
  have HB2 := hide B2
  clear b1 b2 hb2 m1 bx1 HB1 B1 B2
  go_wp2_with fail
  go_loopw [10] (ChkIn w2 (cIn s t f l p)) (fun i _ => 5 - (intOf i).toNat)
  case atStart => exact ⟨0, rfl, by omega, fun j h => absurd h (by omega), Below.refl _ _⟩
  case round =>
    obtain ⟨k, rfl, hk, hok, hb⟩ := hrel
    have HOK := hide hok
    clear hok
    by_cases hlt : k < 5
    · obtain ⟨x, hx⟩ := HCS.out k hlt
      obtain ⟨e0, e1, e2⟩ := bndA_at s t f l p hlt
      have b2 := H2.out.below hb H2.out.lt
      have b1 := H1.out.below hb H1.out.lt
      have z0 := (b2.cell (k * 3)).trans e0
      have z1 := (b2.cell (k * 3 + 1)).trans e1
      have z2 := (b2.cell (k * 3 + 2)).trans e2
      have z3 := (b1.cell k).trans hx
      have HI := hide (show cIn s t f l p k ↔ (cLo k ≤ cN s t f l p k ∧ cN s t f l p k ≤ cHi k) from Iff.rfl)
      have HN := hide (fun h => cfg_no (s := s) (t := t) (f := f) (l := l) (p := p) hlt h)
      have y1 := b1.lt
      clear e0 e1 e2 hx b1 b2
      generalize cN s t f l p k = n at *
      generalize cLo k = lo at *
      generalize cHi k = hi at *
      have hz := hb.size
      by_cases c1 : n < lo
      · have E := hide (HN.out (fun h => by have := HI.out.1 h; omega))
        go_wp2_with fail
        go_ret
        refine ⟨⟨_, rfl, ?_⟩, ?_⟩
        · rw [E.out]
          exact ⟨_, rfl⟩
        · have B9 := HB2.out.trans (hb.mono HB2.out.size)
          exact (B9.alloc B9.size _).alloc (by have := B9.size; simp only [World.size_alloc]; omega) _
      by_cases c2 : hi < n
      · have E := hide (HN.out (fun h => by have := HI.out.1 h; omega))
        go_wp2_with fail
        go_ret
        refine ⟨⟨_, rfl, ?_⟩, ?_⟩
        · rw [E.out]
          exact ⟨_, rfl⟩
        · have B9 := HB2.out.trans (hb.mono HB2.out.size)
          exact (B9.alloc B9.size _).alloc (by have := B9.size; simp only [World.size_alloc]; omega) _
      · have E := hide (HI.out.2 ⟨by omega, by omega⟩)
        go_wp2_with fail
        go_roundw
        case rel => exact ⟨k + 1, by go_num, by omega, fun j hj => by
          by_cases e : j = k
          · subst e
            exact E.out
          · exact HOK.out j (by omega), hb.alloc hz _⟩
        case measure => simp [intOf]; omega
    · obtain rfl : k = 5 := by omega
      have E := hide (cfg_all HOK.out)
      go_wp2_with fail
      go_ret
      exact ⟨⟨_, rfl, by rw [E.out]; rfl⟩, HB2.out.trans (hb.mono HB2.out.size)⟩

set_option maxHeartbeats 400000 in
theorem cright_any (s t f l p : Int) (w : World) (hT : Tab w) :
    Calls Tryd.prog 42 #[.agg #[.int .i64 s, .int .i64 t, .int .i64 f, .int .i64 l, .int .i64 p]] w fun e w' => e = .returned (.bool (cfgOk s t f l p)) ∧ Below w.heap.size w w' := by
  have C := hide (fun w2 (hb : Below w.heap.size w w2) => check_any s t f l p w2 (hT.below hb))
  generalize cfgOk s t f l p = ok at *
  cases ok
  · go_enter Tryd.func42, Tryd.ntmps42
    go_wp2_with fail
    have B0 := (Below.refl w.heap.size w).alloc (Nat.le_refl _) (.cells #[.int .i64 s, .int .i64 t, .int .i64 f, .int .i64 l, .int .i64 p] 36)
    refine (C.out _ B0).mono ?_
    rintro e w1 ⟨⟨v, rfl, a, rfl⟩, hb1⟩
    have B1 := B0.trans (hb1.mono B0.size)
    go_wp2_with fail
    go_ret
    exact ⟨rfl, B1⟩
  · go_enter Tryd.func42, Tryd.ntmps42
    go_wp2_with fail
    have B0 := (Below.refl w.heap.size w).alloc (Nat.le_refl _) (.cells #[.int .i64 s, .int .i64 t, .int .i64 f, .int .i64 l, .int .i64 p] 36)
    refine (C.out _ B0).mono ?_
    rintro e w1 ⟨⟨v, rfl, hv⟩, hb1⟩
    obtain rfl : v = .nilIface := hv
    have B1 := B0.trans (hb1.mono B0.size)
    go_wp2_with fail
    go_ret
    exact ⟨rfl, B1⟩
end Go.Proofs.YtokcbipmocpllaaDoor

/-
  Package layout: New, Config, none, Size, At, What and the words of threads and slots.
-/
namespace Go.Proofs.YtokcbipmocpllaaDoor
open Go.RowKit
attribute [local go_sem] past_cell past_cell_add

theorem ret_int {k : IntKind} {a b : Int} (h : a = b) : Ending.returned (.int k a) = .returned (.int k b) := by rw [h]
set_option maxHeartbeats 400000 in
theorem within_t (n m : Int) (w : World) (h0 : 0 ≤ n) (h1 : n < m) : Calls Tryd.prog 75 #[.int .i64 n, .int .i64 m] w fun e w' => e = .returned (.bool true) ∧ w = w' := by
  go_enter Tryd.func75, Tryd.ntmps75
  go_wp2_with fail
  go_ret
  exact ⟨rfl, rfl⟩
set_option maxHeartbeats 400000 in
theorem within_f (n m : Int) (w : World) (h : n < 0 ∨ m ≤ n) : Calls Tryd.prog 75 #[.int .i64 n, .int .i64 m] w fun e w' => e = .returned (.bool false) ∧ w = w' := by
  by_cases c1 : 0 ≤ n
  · have c2 : ¬ n < m := by omega
    clear h
    go_enter Tryd.func75, Tryd.ntmps75
    go_wp2_with fail
    go_ret
    exact ⟨rfl, rfl⟩
  · clear h
    go_enter Tryd.func75, Tryd.ntmps75
    go_wp2_with fail
    go_ret
    exact ⟨rfl, rfl⟩

/-- A layout's value. -/
def L5 (s t f l p : Int) : Value := .agg #[.int .i64 s, .int .i64 t, .int .i64 f, .int .i64 l, .int .i64 p]
set_option maxHeartbeats 400000 in
theorem none_no (s t f l p : Int) (w : World) (hs : 1 ≤ s) : Calls Tryd.prog 59 #[.agg #[.int .i64 s, .int .i64 t, .int .i64 f, .int .i64 l, .int .i64 p]] w fun e w' => e = .returned (.bool false) ∧ Below w.heap.size w w' := by
  have q : (s == 0) = false := by rw [beq_eq_false_iff_ne]; omega
  go_enter Tryd.func59, Tryd.ntmps59
  go_wp2_with fail
  go_ret
  exact ⟨rfl, (Below.refl _ _).alloc (Nat.le_refl _) _⟩
set_option maxHeartbeats 400000 in
theorem none_yes (w : World) : Calls Tryd.prog 59 #[.agg #[.int .i64 0, .int .i64 0, .int .i64 0, .int .i64 0, .int .i64 0]] w fun e w' => e = .returned (.bool true) ∧ Below w.heap.size w w' := by
  go_enter Tryd.func59, Tryd.ntmps59
  go_wp2_with fail
  go_ret
  exact ⟨rfl, (Below.refl _ _).alloc (Nat.le_refl _) _⟩
set_option maxHeartbeats 400000 in
theorem announces_any (s t f l p : Int) (w : World) : Calls Tryd.prog 76 #[.agg #[.int .i64 s, .int .i64 t, .int .i64 f, .int .i64 l, .int .i64 p]] w fun e w' => e = .returned (.int .i64 3) ∧ Below w.heap.size w w' := by
  go_enter Tryd.func76, Tryd.ntmps76
  go_wp2_with fail
  go_ret
  exact ⟨rfl, (Below.refl _ _).alloc (Nat.le_refl _) _⟩
set_option maxHeartbeats 400000 in
theorem width_any (s t f l p : Int) (w : World) (hf : 4 ≤ f ∧ f ≤ 64) : Calls Tryd.prog 61 #[.agg #[.int .i64 s, .int .i64 t, .int .i64 f, .int .i64 l, .int .i64 p]] w fun e w' => e = .returned (.int .i64 (3 + 2 * f)) ∧ Below w.heap.size w w' := by
  obtain ⟨h1, h2⟩ := hf
  go_enter Tryd.func61, Tryd.ntmps61
  go_wp2_with fail
  go_ret
  exact ⟨rfl, (Below.refl _ _).alloc (Nat.le_refl _) _⟩
set_option maxHeartbeats 1000000 in
theorem hazards_any (s t f l p : Int) (w : World) (ht : 1 ≤ t ∧ t ≤ 64) : Calls Tryd.prog 77 #[.agg #[.int .i64 s, .int .i64 t, .int .i64 f, .int .i64 l, .int .i64 p]] w fun e w' => e = .returned (.int .i64 (3 + t)) ∧ Below w.heap.size w w' := by
  obtain ⟨h1, h2⟩ := ht
  have h3 : IntKind.i64.wrap (3 + t) = 3 + t := IntWalk.i64_in _ (by omega)
  go_enter Tryd.func77, Tryd.ntmps77
  go_wp2_with fail
  have bx := Blk.new w 44 #[.int .i64 s, .int .i64 t, .int .i64 f, .int .i64 l, .int .i64 p]
  have lx := bx.lt
  have mx := fun i => bx.cell i
  have B0 := (Below.refl w.heap.size w).alloc (Nat.le_refl _) (.cells #[.int .i64 s, .int .i64 t, .int .i64 f, .int .i64 l, .int .i64 p] 44)
  generalize w.alloc (.cells #[.int .i64 s, .int .i64 t, .int .i64 f, .int .i64 l, .int .i64 p] 44) = w1 at *
  refine wp_region_past (by kernel_rfl) (by kernel_rfl) ?_
  repeat (quiet_step ((first | ((exact calls_past (announces_any _ _ _ _ _ _))))))
  refine wpQuiet_nil ?_
  intro _ hw'
  obtain ⟨y, hw''⟩ := hw'
  subst hw''
  have hy := past_below w1 y
  go_wp2_with fail
  go_ret
  exact ⟨rfl, B0.trans (hy.mono B0.size)⟩
set_option maxHeartbeats 1000000 in
theorem slots_any (s t f l p : Int) (w : World) (ht : 1 ≤ t ∧ t ≤ 64) : Calls Tryd.prog 60 #[.agg #[.int .i64 s, .int .i64 t, .int .i64 f, .int .i64 l, .int .i64 p]] w fun e w' => e = .returned (.int .i64 (3 + 3 * t)) ∧ Below w.heap.size w w' := by
  have H := hide (fun w => hazards_any s t f l p w ht)
  obtain ⟨h1, h2⟩ := ht
  have h4 : IntKind.i64.wrap (2 * t) = 2 * t := IntWalk.i64_in _ (by omega)
  have h3 : IntKind.i64.wrap (3 + t + 2 * t) = 3 + 3 * t := by rw [IntWalk.i64_in _ (by omega)]; omega
  go_enter Tryd.func60, Tryd.ntmps60
  go_wp2_with fail
  have bx := Blk.new w 44 #[.int .i64 s, .int .i64 t, .int .i64 f, .int .i64 l, .int .i64 p]
  have lx := bx.lt
  have mx := fun i => bx.cell i
  have B0 := (Below.refl w.heap.size w).alloc (Nat.le_refl _) (.cells #[.int .i64 s, .int .i64 t, .int .i64 f, .int .i64 l, .int .i64 p] 44)
  generalize w.alloc (.cells #[.int .i64 s, .int .i64 t, .int .i64 f, .int .i64 l, .int .i64 p] 44) = w1 at *
  refine wp_region_past (by kernel_rfl) (by kernel_rfl) ?_
  repeat (quiet_step ((first | ((exact calls_past (H.out _))))))
  refine wpQuiet_nil ?_
  intro _ hw'
  obtain ⟨y, hw''⟩ := hw'
  subst hw''
  have hy := past_below w1 y
  go_wp2_with fail
  go_ret
  exact ⟨rfl, B0.trans (hy.mono B0.size)⟩
set_option maxHeartbeats 1000000 in
theorem size_any (s t f l p : Int) (w : World) (hs : 1 ≤ s ∧ s ≤ 1000) (ht : 1 ≤ t ∧ t ≤ 64) (hf : 4 ≤ f ∧ f ≤ 64) : Calls Tryd.prog 41 #[.agg #[.int .i64 s, .int .i64 t, .int .i64 f, .int .i64 l, .int .i64 p]] w fun e w' => e = .returned (.int .i64 (laySize s t f)) ∧ Below w.heap.size w w' := by
  have N := hide (fun w => none_no s t f l p w hs.1)
  have H := hide (fun w => slots_any s t f l p w ht)
  have W := hide (fun w => width_any s t f l p w hf)
  have z := size_pos hs ht hf
  have h3 : IntKind.i64.wrap (s + 1) = s + 1 := IntWalk.i64_in _ (by omega)
  have h4 : IntKind.i64.wrap ((s + 1) * (3 + 2 * f)) = (s + 1) * (3 + 2 * f) := IntWalk.i64_in _ (by unfold laySize at z; omega)
  have h5 : IntKind.i64.wrap (3 + 3 * t + (s + 1) * (3 + 2 * f)) = laySize s t f := by unfold laySize at z ⊢; exact IntWalk.i64_in _ (by omega)
  clear z
  generalize laySize s t f = R at *
  go_enter Tryd.func41, Tryd.ntmps41
  go_wp2_with fail
  have bx := Blk.new w 44 #[.int .i64 s, .int .i64 t, .int .i64 f, .int .i64 l, .int .i64 p]
  have B0 := (Below.refl w.heap.size w).alloc (Nat.le_refl _) (.cells #[.int .i64 s, .int .i64 t, .int .i64 f, .int .i64 l, .int .i64 p] 44)
  refine (N.out _).mono ?_
  rintro e w1 ⟨rfl, hb1⟩
  replace bx := bx.below hb1 bx.lt
  replace B0 := B0.trans (hb1.mono B0.size)
  clear hb1
  have lx := bx.lt
  have mx := fun i => bx.cell i
  go_wp2_with fail
  refine wp_region_past (by kernel_rfl) (by kernel_rfl) ?_
  repeat (quiet_step ((first | ((first | (go_at_call 60; exact calls_past (H.out _)) | (go_at_call 61; exact calls_past (W.out _)))))))
  refine wpQuiet_nil ?_
  intro _ hw'
  obtain ⟨y, hw''⟩ := hw'
  subst hw''
  have hy := past_below w1 y
  go_wp2_with fail
  go_ret
  exact ⟨rfl, B0.trans (hy.mono B0.size)⟩
set_option maxHeartbeats 400000 in
theorem size_zero (w : World) : Calls Tryd.prog 41 #[.agg #[.int .i64 0, .int .i64 0, .int .i64 0, .int .i64 0, .int .i64 0]] w fun e w' => e = .returned (.int .i64 0) ∧ Below w.heap.size w w' := by
  have N := hide none_yes
  go_enter Tryd.func41, Tryd.ntmps41
  go_wp2_with fail
  have B0 := (Below.refl w.heap.size w).alloc (Nat.le_refl _) (.cells #[.int .i64 0, .int .i64 0, .int .i64 0, .int .i64 0, .int .i64 0] 44)
  refine (N.out _).mono ?_
  rintro e w1 ⟨rfl, hb1⟩
  go_wp2_with fail
  go_ret
  exact ⟨rfl, B0.trans (hb1.mono B0.size)⟩
set_option maxHeartbeats 400000 in
theorem lconfig_any (s t f l p : Int) (w : World) : Calls Tryd.prog 65 #[.agg #[.int .i64 s, .int .i64 t, .int .i64 f, .int .i64 l, .int .i64 p]] w fun e w' => e = .returned (.agg #[.int .i64 s, .int .i64 t, .int .i64 f, .int .i64 l, .int .i64 p]) ∧ Below w.heap.size w w' := by
  go_enter Tryd.func65, Tryd.ntmps65
  go_wp2_with fail
  refine bodyPost_ret (v := .agg #[.int .i64 s, .int .i64 t, .int .i64 f, .int .i64 l, .int .i64 p]) (by simp [results, Tryd.results65, go_sem]) rfl ⟨rfl, ?_⟩
  exact ((Below.refl _ _).alloc (Nat.le_refl _) _).alloc (by simp only [World.size_alloc]; omega) _
set_option maxHeartbeats 1000000 in
theorem new_yes (s t f l p : Int) (w : World) (hT : Tab w) (h : cfgOk s t f l p = true) : Calls Tryd.prog 18 #[.agg #[.int .i64 s, .int .i64 t, .int .i64 f, .int .i64 l, .int .i64 p]] w fun e w' => e = .returned (.agg #[.int .i64 s, .int .i64 t, .int .i64 f, .int .i64 l, .int .i64 p]) ∧ Below w.heap.size w w' := by
  have R := hide (fun w2 (hb : Below w.heap.size w w2) => cright_any s t f l p w2 (hT.below hb))
  rw [h] at R
  clear h
  go_enter Tryd.func18, Tryd.ntmps18
  go_wp2_with fail
  have bx := Blk.new w 36 #[.int .i64 s, .int .i64 t, .int .i64 f, .int .i64 l, .int .i64 p]
  have B0 := (Below.refl w.heap.size w).alloc (Nat.le_refl _) (.cells #[.int .i64 s, .int .i64 t, .int .i64 f, .int .i64 l, .int .i64 p] 36)
  have bo := Blk.new (w.alloc (.cells #[.int .i64 s, .int .i64 t, .int .i64 f, .int .i64 l, .int .i64 p] 36)) 44 #[.int .i64 0, .int .i64 0, .int .i64 0, .int .i64 0, .int .i64 0]
  replace bx := bx.alloc (.cells #[.int .i64 0, .int .i64 0, .int .i64 0, .int .i64 0, .int .i64 0] 44)
  replace B0 := B0.alloc B0.size (.cells #[.int .i64 0, .int .i64 0, .int .i64 0, .int .i64 0, .int .i64 0] 44)
  rw [World.size_alloc] at bo
  refine (R.out _ B0).mono ?_
  rintro e w1 ⟨rfl, hb1⟩
  replace bx := bx.below hb1 bx.lt
  replace bo := bo.below hb1 bo.lt
  replace B0 := B0.trans (hb1.mono B0.size)
  clear hb1
  have mx := fun i => bx.cell i
  have mo := fun i => bo.cell i
  have zo := fun i => bo.frozen i
  go_wp2_with fail
  have b9 := ((((bo.set_ 0 (.int .i64 s)).set_ 1 (.int .i64 t)).set_ 2 (.int .i64 f)).set_ 3 (.int .i64 l)).set_ 4 (.int .i64 p)
  simp only [List.setIfInBounds_toArray, List.set_cons_zero, List.set_cons_succ] at b9
  have B9 := ((((B0.setCell (p := ⟨w.heap.size + 1, 0, none⟩) (by show w.heap.size ≤ w.heap.size + 1; omega) (.int .i64 s)).setCell (p := ⟨w.heap.size + 1, 1, none⟩) (by show w.heap.size ≤ w.heap.size + 1; omega) (.int .i64 t)).setCell (p := ⟨w.heap.size + 1, 2, none⟩) (by show w.heap.size ≤ w.heap.size + 1; omega) (.int .i64 f)).setCell (p := ⟨w.heap.size + 1, 3, none⟩) (by show w.heap.size ≤ w.heap.size + 1; omega) (.int .i64 l)).setCell (p := ⟨w.heap.size + 1, 4, none⟩) (by show w.heap.size ≤ w.heap.size + 1; omega) (.int .i64 p)
  have m9 := fun i => b9.cell i
  refine bodyPost_ret (v := .agg #[.int .i64 s, .int .i64 t, .int .i64 f, .int .i64 l, .int .i64 p]) (by simp [results, Tryd.results18, go_sem, m9]) rfl ⟨rfl, B9⟩
set_option maxHeartbeats 1000000 in
theorem new_no (s t f l p : Int) (w : World) (hT : Tab w) (h : cfgOk s t f l p = false) : Calls Tryd.prog 18 #[.agg #[.int .i64 s, .int .i64 t, .int .i64 f, .int .i64 l, .int .i64 p]] w fun e w' => e = .returned (.agg #[.int .i64 0, .int .i64 0, .int .i64 0, .int .i64 0, .int .i64 0]) ∧ Below w.heap.size w w' := by
  have R := hide (fun w2 (hb : Below w.heap.size w w2) => cright_any s t f l p w2 (hT.below hb))
  rw [h] at R
  clear h
  go_enter Tryd.func18, Tryd.ntmps18
  go_wp2_with fail
  have bx := Blk.new w 36 #[.int .i64 s, .int .i64 t, .int .i64 f, .int .i64 l, .int .i64 p]
  have B0 := (Below.refl w.heap.size w).alloc (Nat.le_refl _) (.cells #[.int .i64 s, .int .i64 t, .int .i64 f, .int .i64 l, .int .i64 p] 36)
  have bo := Blk.new (w.alloc (.cells #[.int .i64 s, .int .i64 t, .int .i64 f, .int .i64 l, .int .i64 p] 36)) 44 #[.int .i64 0, .int .i64 0, .int .i64 0, .int .i64 0, .int .i64 0]
  replace bx := bx.alloc (.cells #[.int .i64 0, .int .i64 0, .int .i64 0, .int .i64 0, .int .i64 0] 44)
  replace B0 := B0.alloc B0.size (.cells #[.int .i64 0, .int .i64 0, .int .i64 0, .int .i64 0, .int .i64 0] 44)
  rw [World.size_alloc] at bo
  refine (R.out _ B0).mono ?_
  rintro e w1 ⟨rfl, hb1⟩
  replace bx := bx.below hb1 bx.lt
  replace bo := bo.below hb1 bo.lt
  replace B0 := B0.trans (hb1.mono B0.size)
  clear hb1
  have mx := fun i => bx.cell i
  have mo := fun i => bo.cell i
  have zo := fun i => bo.frozen i
  go_wp2_with fail
  have b9 := ((((bo.set_ 0 (.int .i64 0)).set_ 1 (.int .i64 0)).set_ 2 (.int .i64 0)).set_ 3 (.int .i64 0)).set_ 4 (.int .i64 0)
  simp only [List.setIfInBounds_toArray, List.set_cons_zero, List.set_cons_succ] at b9
  have B9 := ((((B0.setCell (p := ⟨w.heap.size + 1, 0, none⟩) (by show w.heap.size ≤ w.heap.size + 1; omega) (.int .i64 0)).setCell (p := ⟨w.heap.size + 1, 1, none⟩) (by show w.heap.size ≤ w.heap.size + 1; omega) (.int .i64 0)).setCell (p := ⟨w.heap.size + 1, 2, none⟩) (by show w.heap.size ≤ w.heap.size + 1; omega) (.int .i64 0)).setCell (p := ⟨w.heap.size + 1, 3, none⟩) (by show w.heap.size ≤ w.heap.size + 1; omega) (.int .i64 0)).setCell (p := ⟨w.heap.size + 1, 4, none⟩) (by show w.heap.size ≤ w.heap.size + 1; omega) (.int .i64 0)
  have m9 := fun i => b9.cell i
  refine bodyPost_ret (v := .agg #[.int .i64 0, .int .i64 0, .int .i64 0, .int .i64 0, .int .i64 0]) (by simp [results, Tryd.results18, go_sem, m9]) rfl ⟨rfl, B9⟩
end Go.Proofs.YtokcbipmocpllaaDoor

/-
  Package layout: node, At.
-/
namespace Go.Proofs.YtokcbipmocpllaaDoor
open Go.RowKit
attribute [local go_sem] past_cell past_cell_add

set_option maxHeartbeats 1000000 in
theorem node_yes6 (s t f l p o i : Int) (w : World) (hs : 1 ≤ s ∧ s ≤ 1000) (ht : 1 ≤ t ∧ t ≤ 64) (hf : 4 ≤ f ∧ f ≤ 64) (ho : 0 ≤ o ∧ o < s + 1) (hi : 0 ≤ i ∧ i < 1) :
    Calls Tryd.prog 78 #[.agg #[.int .i64 s, .int .i64 t, .int .i64 f, .int .i64 l, .int .i64 p], .agg #[.int .i64 6, .int .i64 o, .int .i64 i]] w fun e w' => e = .returned (.int .i64 (3 + 3 * t + o * (3 + 2 * f) + i)) ∧ Below w.heap.size w w' := by
  have W1 := hide (fun w => within_t o (s + 1) w ho.1 ho.2)
  have W2 := hide (fun w => within_t i (1) w hi.1 hi.2)
  have H := hide (fun w => slots_any s t f l p w ht)
  have W := hide (fun w => width_any s t f l p w hf)
  have b1 : 0 ≤ o * (3 + 2 * f) := Int.mul_nonneg ho.1 (by omega)
  have b2 : o * (3 + 2 * f) ≤ 1000 * 131 := Int.mul_le_mul (by omega) (by omega) (by omega) (by omega)
  have h3 : IntKind.i64.wrap (o * (3 + 2 * f)) = o * (3 + 2 * f) := IntWalk.i64_in _ (by omega)
  have h4 : IntKind.i64.wrap (3 + 3 * t + o * (3 + 2 * f)) = 3 + 3 * t + o * (3 + 2 * f) := IntWalk.i64_in _ (by omega)
  have h5 : IntKind.i64.wrap (3 + 3 * t + o * (3 + 2 * f)) = 3 + 3 * t + o * (3 + 2 * f) := IntWalk.i64_in _ (by omega)
  have h6 : IntKind.i64.wrap (3 + 3 * t + o * (3 + 2 * f) + i) = 3 + 3 * t + o * (3 + 2 * f) + i := IntWalk.i64_in _ (by omega)
  have h7 : IntKind.i64.wrap (3 + f) = 3 + f := IntWalk.i64_in _ (by omega)
  obtain ⟨s1, s2⟩ := hs
  clear ho hi ht b1 b2
  go_enter Tryd.func78, Tryd.ntmps78
  go_wp2_with fail
  have bx := Blk.new w 44 #[.int .i64 s, .int .i64 t, .int .i64 f, .int .i64 l, .int .i64 p]
  have B0 := (Below.refl w.heap.size w).alloc (Nat.le_refl _) (.cells #[.int .i64 s, .int .i64 t, .int .i64 f, .int .i64 l, .int .i64 p] 44)
  have bo := Blk.new (w.alloc (.cells #[.int .i64 s, .int .i64 t, .int .i64 f, .int .i64 l, .int .i64 p] 44)) 86 #[.int .i64 6, .int .i64 o, .int .i64 i]
  replace bx := bx.alloc (.cells #[.int .i64 6, .int .i64 o, .int .i64 i] 86)
  replace B0 := B0.alloc B0.size (.cells #[.int .i64 6, .int .i64 o, .int .i64 i] 86)
  rw [World.size_alloc] at bo
  have lx := bx.lt
  have lo := bo.lt
  have mx := fun i => bx.cell i
  have mo := fun i => bo.cell i
  generalize (w.alloc (.cells #[.int .i64 s, .int .i64 t, .int .i64 f, .int .i64 l, .int .i64 p] 44)).alloc (.cells #[.int .i64 6, .int .i64 o, .int .i64 i] 86) = w1 at *
  refine (W1.out _).mono ?_
  rintro e w' ⟨rfl, rfl⟩
  go_wp2_with fail
  refine (W2.out _).mono ?_
  rintro e w' ⟨rfl, rfl⟩
  go_wp2_with fail
  refine wp_region_past (by kernel_rfl) (by kernel_rfl) ?_
  repeat (quiet_step ((first | ((first | (go_at_call 60; exact calls_past (H.out _)) | (go_at_call 61; exact calls_past (W.out _)))))))
  refine wpQuiet_nil ?_
  intro _ hw'
  obtain ⟨y, hw''⟩ := hw'
  subst hw''
  have hy := past_below w1 y
  go_wp2_with fail
  go_ret
  exact ⟨ret_int (by omega), B0.trans (hy.mono B0.size)⟩
set_option maxHeartbeats 1000000 in
theorem node_yes7 (s t f l p o i : Int) (w : World) (hs : 1 ≤ s ∧ s ≤ 1000) (ht : 1 ≤ t ∧ t ≤ 64) (hf : 4 ≤ f ∧ f ≤ 64) (ho : 0 ≤ o ∧ o < s + 1) (hi : 0 ≤ i ∧ i < 1) :
    Calls Tryd.prog 78 #[.agg #[.int .i64 s, .int .i64 t, .int .i64 f, .int .i64 l, .int .i64 p], .agg #[.int .i64 7, .int .i64 o, .int .i64 i]] w fun e w' => e = .returned (.int .i64 (3 + 3 * t + o * (3 + 2 * f)+ 1 + i)) ∧ Below w.heap.size w w' := by
  have W1 := hide (fun w => within_t o (s + 1) w ho.1 ho.2)
  have W2 := hide (fun w => within_t i (1) w hi.1 hi.2)
  have H := hide (fun w => slots_any s t f l p w ht)
  have W := hide (fun w => width_any s t f l p w hf)
  have b1 : 0 ≤ o * (3 + 2 * f) := Int.mul_nonneg ho.1 (by omega)
  have b2 : o * (3 + 2 * f) ≤ 1000 * 131 := Int.mul_le_mul (by omega) (by omega) (by omega) (by omega)
  have h3 : IntKind.i64.wrap (o * (3 + 2 * f)) = o * (3 + 2 * f) := IntWalk.i64_in _ (by omega)
  have h4 : IntKind.i64.wrap (3 + 3 * t + o * (3 + 2 * f)) = 3 + 3 * t + o * (3 + 2 * f) := IntWalk.i64_in _ (by omega)
  have h5 : IntKind.i64.wrap (3 + 3 * t + o * (3 + 2 * f)+ 1) = 3 + 3 * t + o * (3 + 2 * f)+ 1 := IntWalk.i64_in _ (by omega)
  have h6 : IntKind.i64.wrap (3 + 3 * t + o * (3 + 2 * f)+ 1 + i) = 3 + 3 * t + o * (3 + 2 * f)+ 1 + i := IntWalk.i64_in _ (by omega)
  have h7 : IntKind.i64.wrap (3 + f) = 3 + f := IntWalk.i64_in _ (by omega)
  obtain ⟨s1, s2⟩ := hs
  clear ho hi ht b1 b2
  go_enter Tryd.func78, Tryd.ntmps78
  go_wp2_with fail
  have bx := Blk.new w 44 #[.int .i64 s, .int .i64 t, .int .i64 f, .int .i64 l, .int .i64 p]
  have B0 := (Below.refl w.heap.size w).alloc (Nat.le_refl _) (.cells #[.int .i64 s, .int .i64 t, .int .i64 f, .int .i64 l, .int .i64 p] 44)
  have bo := Blk.new (w.alloc (.cells #[.int .i64 s, .int .i64 t, .int .i64 f, .int .i64 l, .int .i64 p] 44)) 86 #[.int .i64 7, .int .i64 o, .int .i64 i]
  replace bx := bx.alloc (.cells #[.int .i64 7, .int .i64 o, .int .i64 i] 86)
  replace B0 := B0.alloc B0.size (.cells #[.int .i64 7, .int .i64 o, .int .i64 i] 86)
  rw [World.size_alloc] at bo
  have lx := bx.lt
  have lo := bo.lt
  have mx := fun i => bx.cell i
  have mo := fun i => bo.cell i
  generalize (w.alloc (.cells #[.int .i64 s, .int .i64 t, .int .i64 f, .int .i64 l, .int .i64 p] 44)).alloc (.cells #[.int .i64 7, .int .i64 o, .int .i64 i] 86) = w1 at *
  refine (W1.out _).mono ?_
  rintro e w' ⟨rfl, rfl⟩
  go_wp2_with fail
  refine (W2.out _).mono ?_
  rintro e w' ⟨rfl, rfl⟩
  go_wp2_with fail
  refine wp_region_past (by kernel_rfl) (by kernel_rfl) ?_
  repeat (quiet_step ((first | ((first | (go_at_call 60; exact calls_past (H.out _)) | (go_at_call 61; exact calls_past (W.out _)))))))
  refine wpQuiet_nil ?_
  intro _ hw'
  obtain ⟨y, hw''⟩ := hw'
  subst hw''
  have hy := past_below w1 y
  go_wp2_with fail
  go_ret
  exact ⟨ret_int (by omega), B0.trans (hy.mono B0.size)⟩
set_option maxHeartbeats 1000000 in
theorem node_yes8 (s t f l p o i : Int) (w : World) (hs : 1 ≤ s ∧ s ≤ 1000) (ht : 1 ≤ t ∧ t ≤ 64) (hf : 4 ≤ f ∧ f ≤ 64) (ho : 0 ≤ o ∧ o < s + 1) (hi : 0 ≤ i ∧ i < 1) :
    Calls Tryd.prog 78 #[.agg #[.int .i64 s, .int .i64 t, .int .i64 f, .int .i64 l, .int .i64 p], .agg #[.int .i64 8, .int .i64 o, .int .i64 i]] w fun e w' => e = .returned (.int .i64 (3 + 3 * t + o * (3 + 2 * f)+ 2 + i)) ∧ Below w.heap.size w w' := by
  have W1 := hide (fun w => within_t o (s + 1) w ho.1 ho.2)
  have W2 := hide (fun w => within_t i (1) w hi.1 hi.2)
  have H := hide (fun w => slots_any s t f l p w ht)
  have W := hide (fun w => width_any s t f l p w hf)
  have b1 : 0 ≤ o * (3 + 2 * f) := Int.mul_nonneg ho.1 (by omega)
  have b2 : o * (3 + 2 * f) ≤ 1000 * 131 := Int.mul_le_mul (by omega) (by omega) (by omega) (by omega)
  have h3 : IntKind.i64.wrap (o * (3 + 2 * f)) = o * (3 + 2 * f) := IntWalk.i64_in _ (by omega)
  have h4 : IntKind.i64.wrap (3 + 3 * t + o * (3 + 2 * f)) = 3 + 3 * t + o * (3 + 2 * f) := IntWalk.i64_in _ (by omega)
  have h5 : IntKind.i64.wrap (3 + 3 * t + o * (3 + 2 * f)+ 2) = 3 + 3 * t + o * (3 + 2 * f)+ 2 := IntWalk.i64_in _ (by omega)
  have h6 : IntKind.i64.wrap (3 + 3 * t + o * (3 + 2 * f)+ 2 + i) = 3 + 3 * t + o * (3 + 2 * f)+ 2 + i := IntWalk.i64_in _ (by omega)
  have h7 : IntKind.i64.wrap (3 + f) = 3 + f := IntWalk.i64_in _ (by omega)
  obtain ⟨s1, s2⟩ := hs
  clear ho hi ht b1 b2
  go_enter Tryd.func78, Tryd.ntmps78
  go_wp2_with fail
  have bx := Blk.new w 44 #[.int .i64 s, .int .i64 t, .int .i64 f, .int .i64 l, .int .i64 p]
  have B0 := (Below.refl w.heap.size w).alloc (Nat.le_refl _) (.cells #[.int .i64 s, .int .i64 t, .int .i64 f, .int .i64 l, .int .i64 p] 44)
  have bo := Blk.new (w.alloc (.cells #[.int .i64 s, .int .i64 t, .int .i64 f, .int .i64 l, .int .i64 p] 44)) 86 #[.int .i64 8, .int .i64 o, .int .i64 i]
  replace bx := bx.alloc (.cells #[.int .i64 8, .int .i64 o, .int .i64 i] 86)
  replace B0 := B0.alloc B0.size (.cells #[.int .i64 8, .int .i64 o, .int .i64 i] 86)
  rw [World.size_alloc] at bo
  have lx := bx.lt
  have lo := bo.lt
  have mx := fun i => bx.cell i
  have mo := fun i => bo.cell i
  generalize (w.alloc (.cells #[.int .i64 s, .int .i64 t, .int .i64 f, .int .i64 l, .int .i64 p] 44)).alloc (.cells #[.int .i64 8, .int .i64 o, .int .i64 i] 86) = w1 at *
  refine (W1.out _).mono ?_
  rintro e w' ⟨rfl, rfl⟩
  go_wp2_with fail
  refine (W2.out _).mono ?_
  rintro e w' ⟨rfl, rfl⟩
  go_wp2_with fail
  refine wp_region_past (by kernel_rfl) (by kernel_rfl) ?_
  repeat (quiet_step ((first | ((first | (go_at_call 60; exact calls_past (H.out _)) | (go_at_call 61; exact calls_past (W.out _)))))))
  refine wpQuiet_nil ?_
  intro _ hw'
  obtain ⟨y, hw''⟩ := hw'
  subst hw''
  have hy := past_below w1 y
  go_wp2_with fail
  go_ret
  exact ⟨ret_int (by omega), B0.trans (hy.mono B0.size)⟩
set_option maxHeartbeats 1000000 in
theorem node_yes9 (s t f l p o i : Int) (w : World) (hs : 1 ≤ s ∧ s ≤ 1000) (ht : 1 ≤ t ∧ t ≤ 64) (hf : 4 ≤ f ∧ f ≤ 64) (ho : 0 ≤ o ∧ o < s + 1) (hi : 0 ≤ i ∧ i < f) :
    Calls Tryd.prog 78 #[.agg #[.int .i64 s, .int .i64 t, .int .i64 f, .int .i64 l, .int .i64 p], .agg #[.int .i64 9, .int .i64 o, .int .i64 i]] w fun e w' => e = .returned (.int .i64 (3 + 3 * t + o * (3 + 2 * f)+ 3 + i)) ∧ Below w.heap.size w w' := by
  have W1 := hide (fun w => within_t o (s + 1) w ho.1 ho.2)
  have W2 := hide (fun w => within_t i (f) w hi.1 hi.2)
  have H := hide (fun w => slots_any s t f l p w ht)
  have W := hide (fun w => width_any s t f l p w hf)
  have b1 : 0 ≤ o * (3 + 2 * f) := Int.mul_nonneg ho.1 (by omega)
  have b2 : o * (3 + 2 * f) ≤ 1000 * 131 := Int.mul_le_mul (by omega) (by omega) (by omega) (by omega)
  have h3 : IntKind.i64.wrap (o * (3 + 2 * f)) = o * (3 + 2 * f) := IntWalk.i64_in _ (by omega)
  have h4 : IntKind.i64.wrap (3 + 3 * t + o * (3 + 2 * f)) = 3 + 3 * t + o * (3 + 2 * f) := IntWalk.i64_in _ (by omega)
  have h5 : IntKind.i64.wrap (3 + 3 * t + o * (3 + 2 * f)+ 3) = 3 + 3 * t + o * (3 + 2 * f)+ 3 := IntWalk.i64_in _ (by omega)
  have h6 : IntKind.i64.wrap (3 + 3 * t + o * (3 + 2 * f)+ 3 + i) = 3 + 3 * t + o * (3 + 2 * f)+ 3 + i := IntWalk.i64_in _ (by omega)
  have h7 : IntKind.i64.wrap (3 + f) = 3 + f := IntWalk.i64_in _ (by omega)
  obtain ⟨s1, s2⟩ := hs
  clear ho hi ht b1 b2
  go_enter Tryd.func78, Tryd.ntmps78
  go_wp2_with fail
  have bx := Blk.new w 44 #[.int .i64 s, .int .i64 t, .int .i64 f, .int .i64 l, .int .i64 p]
  have B0 := (Below.refl w.heap.size w).alloc (Nat.le_refl _) (.cells #[.int .i64 s, .int .i64 t, .int .i64 f, .int .i64 l, .int .i64 p] 44)
  have bo := Blk.new (w.alloc (.cells #[.int .i64 s, .int .i64 t, .int .i64 f, .int .i64 l, .int .i64 p] 44)) 86 #[.int .i64 9, .int .i64 o, .int .i64 i]
  replace bx := bx.alloc (.cells #[.int .i64 9, .int .i64 o, .int .i64 i] 86)
  replace B0 := B0.alloc B0.size (.cells #[.int .i64 9, .int .i64 o, .int .i64 i] 86)
  rw [World.size_alloc] at bo
  have lx := bx.lt
  have lo := bo.lt
  have mx := fun i => bx.cell i
  have mo := fun i => bo.cell i
  generalize (w.alloc (.cells #[.int .i64 s, .int .i64 t, .int .i64 f, .int .i64 l, .int .i64 p] 44)).alloc (.cells #[.int .i64 9, .int .i64 o, .int .i64 i] 86) = w1 at *
  refine wp_region_past (by kernel_rfl) (by kernel_rfl) ?_
  repeat (quiet_step ((first | fail)))
  refine wpQuiet_nil ?_
  intro _ hw'
  obtain ⟨y, hw''⟩ := hw'
  subst hw''
  have hy := past_below w1 y
  replace bx := bx.below hy bx.lt
  replace bo := bo.below hy bo.lt
  replace B0 := B0.trans (hy.mono B0.size)
  clear hy mx mo lx lo
  generalize past w1 y = w2 at *
  have lx := bx.lt
  have lo := bo.lt
  have mx := fun i => bx.cell i
  have mo := fun i => bo.cell i
  go_wp2_with fail
  refine (W1.out _).mono ?_
  rintro e w' ⟨rfl, rfl⟩
  go_wp2_with fail
  refine (W2.out _).mono ?_
  rintro e w' ⟨rfl, rfl⟩
  go_wp2_with fail
  refine wp_region_past (by kernel_rfl) (by kernel_rfl) ?_
  repeat (quiet_step ((first | ((first | (go_at_call 60; exact calls_past (H.out _)) | (go_at_call 61; exact calls_past (W.out _)))))))
  refine wpQuiet_nil ?_
  intro _ hw'
  obtain ⟨y, hw''⟩ := hw'
  subst hw''
  have hy := past_below w2 y
  go_wp2_with fail
  go_ret
  exact ⟨ret_int (by omega), B0.trans (hy.mono B0.size)⟩
set_option maxHeartbeats 1000000 in
theorem node_yes10 (s t f l p o i : Int) (w : World) (hs : 1 ≤ s ∧ s ≤ 1000) (ht : 1 ≤ t ∧ t ≤ 64) (hf : 4 ≤ f ∧ f ≤ 64) (ho : 0 ≤ o ∧ o < s + 1) (hi : 0 ≤ i ∧ i < f) :
    Calls Tryd.prog 78 #[.agg #[.int .i64 s, .int .i64 t, .int .i64 f, .int .i64 l, .int .i64 p], .agg #[.int .i64 10, .int .i64 o, .int .i64 i]] w fun e w' => e = .returned (.int .i64 (3 + 3 * t + o * (3 + 2 * f)+ (3 + f) + i)) ∧ Below w.heap.size w w' := by
  have W1 := hide (fun w => within_t o (s + 1) w ho.1 ho.2)
  have W2 := hide (fun w => within_t i (f) w hi.1 hi.2)
  have H := hide (fun w => slots_any s t f l p w ht)
  have W := hide (fun w => width_any s t f l p w hf)
  have b1 : 0 ≤ o * (3 + 2 * f) := Int.mul_nonneg ho.1 (by omega)
  have b2 : o * (3 + 2 * f) ≤ 1000 * 131 := Int.mul_le_mul (by omega) (by omega) (by omega) (by omega)
  have h3 : IntKind.i64.wrap (o * (3 + 2 * f)) = o * (3 + 2 * f) := IntWalk.i64_in _ (by omega)
  have h4 : IntKind.i64.wrap (3 + 3 * t + o * (3 + 2 * f)) = 3 + 3 * t + o * (3 + 2 * f) := IntWalk.i64_in _ (by omega)
  have h5 : IntKind.i64.wrap (3 + 3 * t + o * (3 + 2 * f)+ (3 + f)) = 3 + 3 * t + o * (3 + 2 * f)+ (3 + f) := IntWalk.i64_in _ (by omega)
  have h6 : IntKind.i64.wrap (3 + 3 * t + o * (3 + 2 * f)+ (3 + f) + i) = 3 + 3 * t + o * (3 + 2 * f)+ (3 + f) + i := IntWalk.i64_in _ (by omega)
  have h7 : IntKind.i64.wrap (3 + f) = 3 + f := IntWalk.i64_in _ (by omega)
  obtain ⟨s1, s2⟩ := hs
  clear ho hi ht b1 b2
  go_enter Tryd.func78, Tryd.ntmps78
  go_wp2_with fail
  have bx := Blk.new w 44 #[.int .i64 s, .int .i64 t, .int .i64 f, .int .i64 l, .int .i64 p]
  have B0 := (Below.refl w.heap.size w).alloc (Nat.le_refl _) (.cells #[.int .i64 s, .int .i64 t, .int .i64 f, .int .i64 l, .int .i64 p] 44)
  have bo := Blk.new (w.alloc (.cells #[.int .i64 s, .int .i64 t, .int .i64 f, .int .i64 l, .int .i64 p] 44)) 86 #[.int .i64 10, .int .i64 o, .int .i64 i]
  replace bx := bx.alloc (.cells #[.int .i64 10, .int .i64 o, .int .i64 i] 86)
  replace B0 := B0.alloc B0.size (.cells #[.int .i64 10, .int .i64 o, .int .i64 i] 86)
  rw [World.size_alloc] at bo
  have lx := bx.lt
  have lo := bo.lt
  have mx := fun i => bx.cell i
  have mo := fun i => bo.cell i
  generalize (w.alloc (.cells #[.int .i64 s, .int .i64 t, .int .i64 f, .int .i64 l, .int .i64 p] 44)).alloc (.cells #[.int .i64 10, .int .i64 o, .int .i64 i] 86) = w1 at *
  refine wp_region_past (by kernel_rfl) (by kernel_rfl) ?_
  repeat (quiet_step ((first | fail)))
  refine wpQuiet_nil ?_
  intro _ hw'
  obtain ⟨y, hw''⟩ := hw'
  subst hw''
  have hy := past_below w1 y
  replace bx := bx.below hy bx.lt
  replace bo := bo.below hy bo.lt
  replace B0 := B0.trans (hy.mono B0.size)
  clear hy mx mo lx lo
  generalize past w1 y = w2 at *
  have lx := bx.lt
  have lo := bo.lt
  have mx := fun i => bx.cell i
  have mo := fun i => bo.cell i
  go_wp2_with fail
  refine (W1.out _).mono ?_
  rintro e w' ⟨rfl, rfl⟩
  go_wp2_with fail
  refine (W2.out _).mono ?_
  rintro e w' ⟨rfl, rfl⟩
  go_wp2_with fail
  refine wp_region_past (by kernel_rfl) (by kernel_rfl) ?_
  repeat (quiet_step ((first | ((first | (go_at_call 60; exact calls_past (H.out _)) | (go_at_call 61; exact calls_past (W.out _)))))))
  refine wpQuiet_nil ?_
  intro _ hw'
  obtain ⟨y, hw''⟩ := hw'
  subst hw''
  have hy := past_below w2 y
  go_wp2_with fail
  go_ret
  exact ⟨ret_int (by omega), B0.trans (hy.mono B0.size)⟩

set_option maxHeartbeats 1000000 in
theorem node_no6 (s t f l p o i : Int) (w : World) (hs : 1 ≤ s ∧ s ≤ 1000) (hf : 4 ≤ f ∧ f ≤ 64) (h : o < 0 ∨ s + 1 ≤ o ∨ i < 0 ∨ 1 ≤ i) :
    Calls Tryd.prog 78 #[.agg #[.int .i64 s, .int .i64 t, .int .i64 f, .int .i64 l, .int .i64 p], .agg #[.int .i64 6, .int .i64 o, .int .i64 i]] w fun e w' => e = .returned (.int .i64 (-1)) ∧ Below w.heap.size w w' := by
  have h7 : IntKind.i64.wrap (3 + f) = 3 + f := IntWalk.i64_in _ (by omega)
  obtain ⟨s1, s2⟩ := hs
  by_cases c : o < 0 ∨ s + 1 ≤ o
  · have W1 := hide (fun w => within_f o (s + 1) w c)
    clear h c
    go_enter Tryd.func78, Tryd.ntmps78
    go_wp2_with fail
    have bx := Blk.new w 44 #[.int .i64 s, .int .i64 t, .int .i64 f, .int .i64 l, .int .i64 p]
    have B0 := (Below.refl w.heap.size w).alloc (Nat.le_refl _) (.cells #[.int .i64 s, .int .i64 t, .int .i64 f, .int .i64 l, .int .i64 p] 44)
    have bo := Blk.new (w.alloc (.cells #[.int .i64 s, .int .i64 t, .int .i64 f, .int .i64 l, .int .i64 p] 44)) 86 #[.int .i64 6, .int .i64 o, .int .i64 i]
    replace bx := bx.alloc (.cells #[.int .i64 6, .int .i64 o, .int .i64 i] 86)
    replace B0 := B0.alloc B0.size (.cells #[.int .i64 6, .int .i64 o, .int .i64 i] 86)
    rw [World.size_alloc] at bo
    have lx := bx.lt
    have lo := bo.lt
    have mx := fun i => bx.cell i
    have mo := fun i => bo.cell i
    generalize (w.alloc (.cells #[.int .i64 s, .int .i64 t, .int .i64 f, .int .i64 l, .int .i64 p] 44)).alloc (.cells #[.int .i64 6, .int .i64 o, .int .i64 i] 86) = w1 at *

    refine (W1.out _).mono ?_
    rintro e w' ⟨rfl, rfl⟩
    go_wp2_with fail
    go_ret
    exact ⟨rfl, B0⟩
  · have W1 := hide (fun w => within_t o (s + 1) w (by omega) (by omega))
    have W2 := hide (fun w => within_f i (1) w (by omega))
    clear h c
    go_enter Tryd.func78, Tryd.ntmps78
    go_wp2_with fail
    have bx := Blk.new w 44 #[.int .i64 s, .int .i64 t, .int .i64 f, .int .i64 l, .int .i64 p]
    have B0 := (Below.refl w.heap.size w).alloc (Nat.le_refl _) (.cells #[.int .i64 s, .int .i64 t, .int .i64 f, .int .i64 l, .int .i64 p] 44)
    have bo := Blk.new (w.alloc (.cells #[.int .i64 s, .int .i64 t, .int .i64 f, .int .i64 l, .int .i64 p] 44)) 86 #[.int .i64 6, .int .i64 o, .int .i64 i]
    replace bx := bx.alloc (.cells #[.int .i64 6, .int .i64 o, .int .i64 i] 86)
    replace B0 := B0.alloc B0.size (.cells #[.int .i64 6, .int .i64 o, .int .i64 i] 86)
    rw [World.size_alloc] at bo
    have lx := bx.lt
    have lo := bo.lt
    have mx := fun i => bx.cell i
    have mo := fun i => bo.cell i
    generalize (w.alloc (.cells #[.int .i64 s, .int .i64 t, .int .i64 f, .int .i64 l, .int .i64 p] 44)).alloc (.cells #[.int .i64 6, .int .i64 o, .int .i64 i] 86) = w1 at *

    refine (W1.out _).mono ?_
    rintro e w' ⟨rfl, rfl⟩
    go_wp2_with fail
    refine (W2.out _).mono ?_
    rintro e w' ⟨rfl, rfl⟩
    go_wp2_with fail
    go_ret
    exact ⟨rfl, B0⟩
set_option maxHeartbeats 1000000 in
theorem node_no7 (s t f l p o i : Int) (w : World) (hs : 1 ≤ s ∧ s ≤ 1000) (hf : 4 ≤ f ∧ f ≤ 64) (h : o < 0 ∨ s + 1 ≤ o ∨ i < 0 ∨ 1 ≤ i) :
    Calls Tryd.prog 78 #[.agg #[.int .i64 s, .int .i64 t, .int .i64 f, .int .i64 l, .int .i64 p], .agg #[.int .i64 7, .int .i64 o, .int .i64 i]] w fun e w' => e = .returned (.int .i64 (-1)) ∧ Below w.heap.size w w' := by
  have h7 : IntKind.i64.wrap (3 + f) = 3 + f := IntWalk.i64_in _ (by omega)
  obtain ⟨s1, s2⟩ := hs
  by_cases c : o < 0 ∨ s + 1 ≤ o
  · have W1 := hide (fun w => within_f o (s + 1) w c)
    clear h c
    go_enter Tryd.func78, Tryd.ntmps78
    go_wp2_with fail
    have bx := Blk.new w 44 #[.int .i64 s, .int .i64 t, .int .i64 f, .int .i64 l, .int .i64 p]
    have B0 := (Below.refl w.heap.size w).alloc (Nat.le_refl _) (.cells #[.int .i64 s, .int .i64 t, .int .i64 f, .int .i64 l, .int .i64 p] 44)
    have bo := Blk.new (w.alloc (.cells #[.int .i64 s, .int .i64 t, .int .i64 f, .int .i64 l, .int .i64 p] 44)) 86 #[.int .i64 7, .int .i64 o, .int .i64 i]
    replace bx := bx.alloc (.cells #[.int .i64 7, .int .i64 o, .int .i64 i] 86)
    replace B0 := B0.alloc B0.size (.cells #[.int .i64 7, .int .i64 o, .int .i64 i] 86)
    rw [World.size_alloc] at bo
    have lx := bx.lt
    have lo := bo.lt
    have mx := fun i => bx.cell i
    have mo := fun i => bo.cell i
    generalize (w.alloc (.cells #[.int .i64 s, .int .i64 t, .int .i64 f, .int .i64 l, .int .i64 p] 44)).alloc (.cells #[.int .i64 7, .int .i64 o, .int .i64 i] 86) = w1 at *

    refine (W1.out _).mono ?_
    rintro e w' ⟨rfl, rfl⟩
    go_wp2_with fail
    go_ret
    exact ⟨rfl, B0⟩
  · have W1 := hide (fun w => within_t o (s + 1) w (by omega) (by omega))
    have W2 := hide (fun w => within_f i (1) w (by omega))
    clear h c
    go_enter Tryd.func78, Tryd.ntmps78
    go_wp2_with fail
    have bx := Blk.new w 44 #[.int .i64 s, .int .i64 t, .int .i64 f, .int .i64 l, .int .i64 p]
    have B0 := (Below.refl w.heap.size w).alloc (Nat.le_refl _) (.cells #[.int .i64 s, .int .i64 t, .int .i64 f, .int .i64 l, .int .i64 p] 44)
    have bo := Blk.new (w.alloc (.cells #[.int .i64 s, .int .i64 t, .int .i64 f, .int .i64 l, .int .i64 p] 44)) 86 #[.int .i64 7, .int .i64 o, .int .i64 i]
    replace bx := bx.alloc (.cells #[.int .i64 7, .int .i64 o, .int .i64 i] 86)
    replace B0 := B0.alloc B0.size (.cells #[.int .i64 7, .int .i64 o, .int .i64 i] 86)
    rw [World.size_alloc] at bo
    have lx := bx.lt
    have lo := bo.lt
    have mx := fun i => bx.cell i
    have mo := fun i => bo.cell i
    generalize (w.alloc (.cells #[.int .i64 s, .int .i64 t, .int .i64 f, .int .i64 l, .int .i64 p] 44)).alloc (.cells #[.int .i64 7, .int .i64 o, .int .i64 i] 86) = w1 at *

    refine (W1.out _).mono ?_
    rintro e w' ⟨rfl, rfl⟩
    go_wp2_with fail
    refine (W2.out _).mono ?_
    rintro e w' ⟨rfl, rfl⟩
    go_wp2_with fail
    go_ret
    exact ⟨rfl, B0⟩
set_option maxHeartbeats 1000000 in
theorem node_no8 (s t f l p o i : Int) (w : World) (hs : 1 ≤ s ∧ s ≤ 1000) (hf : 4 ≤ f ∧ f ≤ 64) (h : o < 0 ∨ s + 1 ≤ o ∨ i < 0 ∨ 1 ≤ i) :
    Calls Tryd.prog 78 #[.agg #[.int .i64 s, .int .i64 t, .int .i64 f, .int .i64 l, .int .i64 p], .agg #[.int .i64 8, .int .i64 o, .int .i64 i]] w fun e w' => e = .returned (.int .i64 (-1)) ∧ Below w.heap.size w w' := by
  have h7 : IntKind.i64.wrap (3 + f) = 3 + f := IntWalk.i64_in _ (by omega)
  obtain ⟨s1, s2⟩ := hs
  by_cases c : o < 0 ∨ s + 1 ≤ o
  · have W1 := hide (fun w => within_f o (s + 1) w c)
    clear h c
    go_enter Tryd.func78, Tryd.ntmps78
    go_wp2_with fail
    have bx := Blk.new w 44 #[.int .i64 s, .int .i64 t, .int .i64 f, .int .i64 l, .int .i64 p]
    have B0 := (Below.refl w.heap.size w).alloc (Nat.le_refl _) (.cells #[.int .i64 s, .int .i64 t, .int .i64 f, .int .i64 l, .int .i64 p] 44)
    have bo := Blk.new (w.alloc (.cells #[.int .i64 s, .int .i64 t, .int .i64 f, .int .i64 l, .int .i64 p] 44)) 86 #[.int .i64 8, .int .i64 o, .int .i64 i]
    replace bx := bx.alloc (.cells #[.int .i64 8, .int .i64 o, .int .i64 i] 86)
    replace B0 := B0.alloc B0.size (.cells #[.int .i64 8, .int .i64 o, .int .i64 i] 86)
    rw [World.size_alloc] at bo
    have lx := bx.lt
    have lo := bo.lt
    have mx := fun i => bx.cell i
    have mo := fun i => bo.cell i
    generalize (w.alloc (.cells #[.int .i64 s, .int .i64 t, .int .i64 f, .int .i64 l, .int .i64 p] 44)).alloc (.cells #[.int .i64 8, .int .i64 o, .int .i64 i] 86) = w1 at *

    refine (W1.out _).mono ?_
    rintro e w' ⟨rfl, rfl⟩
    go_wp2_with fail
    go_ret
    exact ⟨rfl, B0⟩
  · have W1 := hide (fun w => within_t o (s + 1) w (by omega) (by omega))
    have W2 := hide (fun w => within_f i (1) w (by omega))
    clear h c
    go_enter Tryd.func78, Tryd.ntmps78
    go_wp2_with fail
    have bx := Blk.new w 44 #[.int .i64 s, .int .i64 t, .int .i64 f, .int .i64 l, .int .i64 p]
    have B0 := (Below.refl w.heap.size w).alloc (Nat.le_refl _) (.cells #[.int .i64 s, .int .i64 t, .int .i64 f, .int .i64 l, .int .i64 p] 44)
    have bo := Blk.new (w.alloc (.cells #[.int .i64 s, .int .i64 t, .int .i64 f, .int .i64 l, .int .i64 p] 44)) 86 #[.int .i64 8, .int .i64 o, .int .i64 i]
    replace bx := bx.alloc (.cells #[.int .i64 8, .int .i64 o, .int .i64 i] 86)
    replace B0 := B0.alloc B0.size (.cells #[.int .i64 8, .int .i64 o, .int .i64 i] 86)
    rw [World.size_alloc] at bo
    have lx := bx.lt
    have lo := bo.lt
    have mx := fun i => bx.cell i
    have mo := fun i => bo.cell i
    generalize (w.alloc (.cells #[.int .i64 s, .int .i64 t, .int .i64 f, .int .i64 l, .int .i64 p] 44)).alloc (.cells #[.int .i64 8, .int .i64 o, .int .i64 i] 86) = w1 at *

    refine (W1.out _).mono ?_
    rintro e w' ⟨rfl, rfl⟩
    go_wp2_with fail
    refine (W2.out _).mono ?_
    rintro e w' ⟨rfl, rfl⟩
    go_wp2_with fail
    go_ret
    exact ⟨rfl, B0⟩
set_option maxHeartbeats 1000000 in
theorem node_no9 (s t f l p o i : Int) (w : World) (hs : 1 ≤ s ∧ s ≤ 1000) (hf : 4 ≤ f ∧ f ≤ 64) (h : o < 0 ∨ s + 1 ≤ o ∨ i < 0 ∨ f ≤ i) :
    Calls Tryd.prog 78 #[.agg #[.int .i64 s, .int .i64 t, .int .i64 f, .int .i64 l, .int .i64 p], .agg #[.int .i64 9, .int .i64 o, .int .i64 i]] w fun e w' => e = .returned (.int .i64 (-1)) ∧ Below w.heap.size w w' := by
  have h7 : IntKind.i64.wrap (3 + f) = 3 + f := IntWalk.i64_in _ (by omega)
  obtain ⟨s1, s2⟩ := hs
  by_cases c : o < 0 ∨ s + 1 ≤ o
  · have W1 := hide (fun w => within_f o (s + 1) w c)
    clear h c
    go_enter Tryd.func78, Tryd.ntmps78
    go_wp2_with fail
    have bx := Blk.new w 44 #[.int .i64 s, .int .i64 t, .int .i64 f, .int .i64 l, .int .i64 p]
    have B0 := (Below.refl w.heap.size w).alloc (Nat.le_refl _) (.cells #[.int .i64 s, .int .i64 t, .int .i64 f, .int .i64 l, .int .i64 p] 44)
    have bo := Blk.new (w.alloc (.cells #[.int .i64 s, .int .i64 t, .int .i64 f, .int .i64 l, .int .i64 p] 44)) 86 #[.int .i64 9, .int .i64 o, .int .i64 i]
    replace bx := bx.alloc (.cells #[.int .i64 9, .int .i64 o, .int .i64 i] 86)
    replace B0 := B0.alloc B0.size (.cells #[.int .i64 9, .int .i64 o, .int .i64 i] 86)
    rw [World.size_alloc] at bo
    have lx := bx.lt
    have lo := bo.lt
    have mx := fun i => bx.cell i
    have mo := fun i => bo.cell i
    generalize (w.alloc (.cells #[.int .i64 s, .int .i64 t, .int .i64 f, .int .i64 l, .int .i64 p] 44)).alloc (.cells #[.int .i64 9, .int .i64 o, .int .i64 i] 86) = w1 at *
    refine wp_region_past (by kernel_rfl) (by kernel_rfl) ?_
    repeat (quiet_step ((first | fail)))
    refine wpQuiet_nil ?_
    intro _ hw'
    obtain ⟨y, hw''⟩ := hw'
    subst hw''
    have hy := past_below w1 y
    replace bx := bx.below hy bx.lt
    replace bo := bo.below hy bo.lt
    replace B0 := B0.trans (hy.mono B0.size)
    clear hy mx mo lx lo
    generalize past w1 y = w2 at *
    have lx := bx.lt
    have lo := bo.lt
    have mx := fun i => bx.cell i
    have mo := fun i => bo.cell i
    go_wp2_with fail
    refine (W1.out _).mono ?_
    rintro e w' ⟨rfl, rfl⟩
    go_wp2_with fail
    go_ret
    exact ⟨rfl, B0⟩
  · have W1 := hide (fun w => within_t o (s + 1) w (by omega) (by omega))
    have W2 := hide (fun w => within_f i (f) w (by omega))
    clear h c
    go_enter Tryd.func78, Tryd.ntmps78
    go_wp2_with fail
    have bx := Blk.new w 44 #[.int .i64 s, .int .i64 t, .int .i64 f, .int .i64 l, .int .i64 p]
    have B0 := (Below.refl w.heap.size w).alloc (Nat.le_refl _) (.cells #[.int .i64 s, .int .i64 t, .int .i64 f, .int .i64 l, .int .i64 p] 44)
    have bo := Blk.new (w.alloc (.cells #[.int .i64 s, .int .i64 t, .int .i64 f, .int .i64 l, .int .i64 p] 44)) 86 #[.int .i64 9, .int .i64 o, .int .i64 i]
    replace bx := bx.alloc (.cells #[.int .i64 9, .int .i64 o, .int .i64 i] 86)
    replace B0 := B0.alloc B0.size (.cells #[.int .i64 9, .int .i64 o, .int .i64 i] 86)
    rw [World.size_alloc] at bo
    have lx := bx.lt
    have lo := bo.lt
    have mx := fun i => bx.cell i
    have mo := fun i => bo.cell i
    generalize (w.alloc (.cells #[.int .i64 s, .int .i64 t, .int .i64 f, .int .i64 l, .int .i64 p] 44)).alloc (.cells #[.int .i64 9, .int .i64 o, .int .i64 i] 86) = w1 at *
    refine wp_region_past (by kernel_rfl) (by kernel_rfl) ?_
    repeat (quiet_step ((first | fail)))
    refine wpQuiet_nil ?_
    intro _ hw'
    obtain ⟨y, hw''⟩ := hw'
    subst hw''
    have hy := past_below w1 y
    replace bx := bx.below hy bx.lt
    replace bo := bo.below hy bo.lt
    replace B0 := B0.trans (hy.mono B0.size)
    clear hy mx mo lx lo
    generalize past w1 y = w2 at *
    have lx := bx.lt
    have lo := bo.lt
    have mx := fun i => bx.cell i
    have mo := fun i => bo.cell i
    go_wp2_with fail
    refine (W1.out _).mono ?_
    rintro e w' ⟨rfl, rfl⟩
    go_wp2_with fail
    refine (W2.out _).mono ?_
    rintro e w' ⟨rfl, rfl⟩
    go_wp2_with fail
    go_ret
    exact ⟨rfl, B0⟩
set_option maxHeartbeats 1000000 in
theorem node_no10 (s t f l p o i : Int) (w : World) (hs : 1 ≤ s ∧ s ≤ 1000) (hf : 4 ≤ f ∧ f ≤ 64) (h : o < 0 ∨ s + 1 ≤ o ∨ i < 0 ∨ f ≤ i) :
    Calls Tryd.prog 78 #[.agg #[.int .i64 s, .int .i64 t, .int .i64 f, .int .i64 l, .int .i64 p], .agg #[.int .i64 10, .int .i64 o, .int .i64 i]] w fun e w' => e = .returned (.int .i64 (-1)) ∧ Below w.heap.size w w' := by
  have h7 : IntKind.i64.wrap (3 + f) = 3 + f := IntWalk.i64_in _ (by omega)
  obtain ⟨s1, s2⟩ := hs
  by_cases c : o < 0 ∨ s + 1 ≤ o
  · have W1 := hide (fun w => within_f o (s + 1) w c)
    clear h c
    go_enter Tryd.func78, Tryd.ntmps78
    go_wp2_with fail
    have bx := Blk.new w 44 #[.int .i64 s, .int .i64 t, .int .i64 f, .int .i64 l, .int .i64 p]
    have B0 := (Below.refl w.heap.size w).alloc (Nat.le_refl _) (.cells #[.int .i64 s, .int .i64 t, .int .i64 f, .int .i64 l, .int .i64 p] 44)
    have bo := Blk.new (w.alloc (.cells #[.int .i64 s, .int .i64 t, .int .i64 f, .int .i64 l, .int .i64 p] 44)) 86 #[.int .i64 10, .int .i64 o, .int .i64 i]
    replace bx := bx.alloc (.cells #[.int .i64 10, .int .i64 o, .int .i64 i] 86)
    replace B0 := B0.alloc B0.size (.cells #[.int .i64 10, .int .i64 o, .int .i64 i] 86)
    rw [World.size_alloc] at bo
    have lx := bx.lt
    have lo := bo.lt
    have mx := fun i => bx.cell i
    have mo := fun i => bo.cell i
    generalize (w.alloc (.cells #[.int .i64 s, .int .i64 t, .int .i64 f, .int .i64 l, .int .i64 p] 44)).alloc (.cells #[.int .i64 10, .int .i64 o, .int .i64 i] 86) = w1 at *
    refine wp_region_past (by kernel_rfl) (by kernel_rfl) ?_
    repeat (quiet_step ((first | fail)))
    refine wpQuiet_nil ?_
    intro _ hw'
    obtain ⟨y, hw''⟩ := hw'
    subst hw''
    have hy := past_below w1 y
    replace bx := bx.below hy bx.lt
    replace bo := bo.below hy bo.lt
    replace B0 := B0.trans (hy.mono B0.size)
    clear hy mx mo lx lo
    generalize past w1 y = w2 at *
    have lx := bx.lt
    have lo := bo.lt
    have mx := fun i => bx.cell i
    have mo := fun i => bo.cell i
    go_wp2_with fail
    refine (W1.out _).mono ?_
    rintro e w' ⟨rfl, rfl⟩
    go_wp2_with fail
    go_ret
    exact ⟨rfl, B0⟩
  · have W1 := hide (fun w => within_t o (s + 1) w (by omega) (by omega))
    have W2 := hide (fun w => within_f i (f) w (by omega))
    clear h c
    go_enter Tryd.func78, Tryd.ntmps78
    go_wp2_with fail
    have bx := Blk.new w 44 #[.int .i64 s, .int .i64 t, .int .i64 f, .int .i64 l, .int .i64 p]
    have B0 := (Below.refl w.heap.size w).alloc (Nat.le_refl _) (.cells #[.int .i64 s, .int .i64 t, .int .i64 f, .int .i64 l, .int .i64 p] 44)
    have bo := Blk.new (w.alloc (.cells #[.int .i64 s, .int .i64 t, .int .i64 f, .int .i64 l, .int .i64 p] 44)) 86 #[.int .i64 10, .int .i64 o, .int .i64 i]
    replace bx := bx.alloc (.cells #[.int .i64 10, .int .i64 o, .int .i64 i] 86)
    replace B0 := B0.alloc B0.size (.cells #[.int .i64 10, .int .i64 o, .int .i64 i] 86)
    rw [World.size_alloc] at bo
    have lx := bx.lt
    have lo := bo.lt
    have mx := fun i => bx.cell i
    have mo := fun i => bo.cell i
    generalize (w.alloc (.cells #[.int .i64 s, .int .i64 t, .int .i64 f, .int .i64 l, .int .i64 p] 44)).alloc (.cells #[.int .i64 10, .int .i64 o, .int .i64 i] 86) = w1 at *
    refine wp_region_past (by kernel_rfl) (by kernel_rfl) ?_
    repeat (quiet_step ((first | fail)))
    refine wpQuiet_nil ?_
    intro _ hw'
    obtain ⟨y, hw''⟩ := hw'
    subst hw''
    have hy := past_below w1 y
    replace bx := bx.below hy bx.lt
    replace bo := bo.below hy bo.lt
    replace B0 := B0.trans (hy.mono B0.size)
    clear hy mx mo lx lo
    generalize past w1 y = w2 at *
    have lx := bx.lt
    have lo := bo.lt
    have mx := fun i => bx.cell i
    have mo := fun i => bo.cell i
    go_wp2_with fail
    refine (W1.out _).mono ?_
    rintro e w' ⟨rfl, rfl⟩
    go_wp2_with fail
    refine (W2.out _).mono ?_
    rintro e w' ⟨rfl, rfl⟩
    go_wp2_with fail
    go_ret
    exact ⟨rfl, B0⟩
set_option maxHeartbeats 1000000 in
theorem node_none (s t f l p k o i : Int) (w : World) (hk : k < 6 ∨ 10 < k) :
    Calls Tryd.prog 78 #[.agg #[.int .i64 s, .int .i64 t, .int .i64 f, .int .i64 l, .int .i64 p], .agg #[.int .i64 k, .int .i64 o, .int .i64 i]] w fun e w' => e = .returned (.int .i64 (-1)) ∧ Below w.heap.size w w' := by
  have k6 : (k == 6) = false := by rw [beq_eq_false_iff_ne]; omega
  have k7 : (k == 7) = false := by rw [beq_eq_false_iff_ne]; omega
  have k8 : (k == 8) = false := by rw [beq_eq_false_iff_ne]; omega
  have k9 : (k == 9) = false := by rw [beq_eq_false_iff_ne]; omega
  have k10 : (k == 10) = false := by rw [beq_eq_false_iff_ne]; omega
  clear hk
  go_enter Tryd.func78, Tryd.ntmps78
  go_wp2_with fail
  go_ret
  exact ⟨rfl, ((Below.refl _ _).alloc (Nat.le_refl _) _).alloc (by simp only [World.size_alloc]; omega) _⟩
/-- node, whatever the place. -/
theorem node_any (s t f l p k o i : Int) (w : World) (hs : 1 ≤ s ∧ s ≤ 1000) (ht : 1 ≤ t ∧ t ≤ 64) (hf : 4 ≤ f ∧ f ≤ 64) :
    Calls Tryd.prog 78 #[.agg #[.int .i64 s, .int .i64 t, .int .i64 f, .int .i64 l, .int .i64 p], .agg #[.int .i64 k, .int .i64 o, .int .i64 i]] w fun e w' => e = .returned (.int .i64 (nod s t f k o i)) ∧ Below w.heap.size w w' := by
  by_cases hk : k < 6 ∨ 10 < k
  · rw [show nod s t f k o i = -1 from if_pos (by omega)]
    exact node_none s t f l p k o i w hk
  have hk5 : k = 6 ∨ k = 7 ∨ k = 8 ∨ k = 9 ∨ k = 10 := by omega
  by_cases h : o < 0 ∨ s + 1 ≤ o ∨ i < 0 ∨ nodMany f k ≤ i
  · rw [show nod s t f k o i = -1 from if_pos (by omega)]
    rcases hk5 with rfl | rfl | rfl | rfl | rfl
    · exact node_no6 s t f l p o i w hs hf h
    · exact node_no7 s t f l p o i w hs hf h
    · exact node_no8 s t f l p o i w hs hf h
    · exact node_no9 s t f l p o i w hs hf h
    · exact node_no10 s t f l p o i w hs hf h
  · rw [show nod s t f k o i = 3 + 3 * t + o * (3 + 2 * f) + nodAt f k + i from if_neg (by omega)]
    have ho : 0 ≤ o ∧ o < s + 1 := by omega
    rcases hk5 with rfl | rfl | rfl | rfl | rfl
    · have := node_yes6 s t f l p o i w hs ht hf ho ⟨by omega, by have : ¬ (1 : Int) ≤ i := fun e => h (.inr (.inr (.inr e))); omega⟩
      rw [show nodAt f 6 = 0 from rfl, Int.add_zero]
      exact this
    · exact node_yes7 s t f l p o i w hs ht hf ho ⟨by omega, by have : ¬ (1 : Int) ≤ i := fun e => h (.inr (.inr (.inr e))); omega⟩
    · exact node_yes8 s t f l p o i w hs ht hf ho ⟨by omega, by have : ¬ (1 : Int) ≤ i := fun e => h (.inr (.inr (.inr e))); omega⟩
    · exact node_yes9 s t f l p o i w hs ht hf ho ⟨by omega, by have : ¬ f ≤ i := fun e => h (.inr (.inr (.inr e))); omega⟩
    · exact node_yes10 s t f l p o i w hs ht hf ho ⟨by omega, by have : ¬ f ≤ i := fun e => h (.inr (.inr (.inr e))); omega⟩
end Go.Proofs.YtokcbipmocpllaaDoor

/-
  Package layout: At, and the words of threads and slots.
-/
namespace Go.Proofs.YtokcbipmocpllaaDoor
open Go.RowKit
attribute [local go_sem] past_cell past_cell_add

set_option maxHeartbeats 1000000 in
theorem at_first1 (s t f l p : Int) (w : World) (hs : 1 ≤ s) :
    Calls Tryd.prog 52 #[.agg #[.int .i64 s, .int .i64 t, .int .i64 f, .int .i64 l, .int .i64 p], .agg #[.int .i64 1, .int .i64 0, .int .i64 0]] w fun e w' => e = .returned (.int .i64 0) ∧ Below w.heap.size w w' := by
  have N := hide (fun w => none_no s t f l p w hs)
  go_enter Tryd.func52, Tryd.ntmps52
  go_wp2_with fail
  have bx := Blk.new w 44 #[.int .i64 s, .int .i64 t, .int .i64 f, .int .i64 l, .int .i64 p]
  have B0 := (Below.refl w.heap.size w).alloc (Nat.le_refl _) (.cells #[.int .i64 s, .int .i64 t, .int .i64 f, .int .i64 l, .int .i64 p] 44)
  have bo := Blk.new (w.alloc (.cells #[.int .i64 s, .int .i64 t, .int .i64 f, .int .i64 l, .int .i64 p] 44)) 86 #[.int .i64 1, .int .i64 0, .int .i64 0]
  replace bx := bx.alloc (.cells #[.int .i64 1, .int .i64 0, .int .i64 0] 86)
  replace B0 := B0.alloc B0.size (.cells #[.int .i64 1, .int .i64 0, .int .i64 0] 86)
  rw [World.size_alloc] at bo
  refine (N.out _).mono ?_
  rintro e w1 ⟨rfl, hb1⟩
  replace bx := bx.below hb1 bx.lt
  replace bo := bo.below hb1 bo.lt
  replace B0 := B0.trans (hb1.mono B0.size)
  clear hb1
  have lx := bx.lt
  have lo := bo.lt
  have mx := fun i => bx.cell i
  have mo := fun i => bo.cell i
  go_wp2_with fail
  go_ret
  exact ⟨rfl, B0⟩
set_option maxHeartbeats 1000000 in
theorem at_first2 (s t f l p : Int) (w : World) (hs : 1 ≤ s) :
    Calls Tryd.prog 52 #[.agg #[.int .i64 s, .int .i64 t, .int .i64 f, .int .i64 l, .int .i64 p], .agg #[.int .i64 2, .int .i64 0, .int .i64 0]] w fun e w' => e = .returned (.int .i64 1) ∧ Below w.heap.size w w' := by
  have N := hide (fun w => none_no s t f l p w hs)
  go_enter Tryd.func52, Tryd.ntmps52
  go_wp2_with fail
  have bx := Blk.new w 44 #[.int .i64 s, .int .i64 t, .int .i64 f, .int .i64 l, .int .i64 p]
  have B0 := (Below.refl w.heap.size w).alloc (Nat.le_refl _) (.cells #[.int .i64 s, .int .i64 t, .int .i64 f, .int .i64 l, .int .i64 p] 44)
  have bo := Blk.new (w.alloc (.cells #[.int .i64 s, .int .i64 t, .int .i64 f, .int .i64 l, .int .i64 p] 44)) 86 #[.int .i64 2, .int .i64 0, .int .i64 0]
  replace bx := bx.alloc (.cells #[.int .i64 2, .int .i64 0, .int .i64 0] 86)
  replace B0 := B0.alloc B0.size (.cells #[.int .i64 2, .int .i64 0, .int .i64 0] 86)
  rw [World.size_alloc] at bo
  refine (N.out _).mono ?_
  rintro e w1 ⟨rfl, hb1⟩
  replace bx := bx.below hb1 bx.lt
  replace bo := bo.below hb1 bo.lt
  replace B0 := B0.trans (hb1.mono B0.size)
  clear hb1
  have lx := bx.lt
  have lo := bo.lt
  have mx := fun i => bx.cell i
  have mo := fun i => bo.cell i
  go_wp2_with fail
  go_ret
  exact ⟨rfl, B0⟩
set_option maxHeartbeats 1000000 in
theorem at_first3 (s t f l p : Int) (w : World) (hs : 1 ≤ s) :
    Calls Tryd.prog 52 #[.agg #[.int .i64 s, .int .i64 t, .int .i64 f, .int .i64 l, .int .i64 p], .agg #[.int .i64 3, .int .i64 0, .int .i64 0]] w fun e w' => e = .returned (.int .i64 2) ∧ Below w.heap.size w w' := by
  have N := hide (fun w => none_no s t f l p w hs)
  go_enter Tryd.func52, Tryd.ntmps52
  go_wp2_with fail
  have bx := Blk.new w 44 #[.int .i64 s, .int .i64 t, .int .i64 f, .int .i64 l, .int .i64 p]
  have B0 := (Below.refl w.heap.size w).alloc (Nat.le_refl _) (.cells #[.int .i64 s, .int .i64 t, .int .i64 f, .int .i64 l, .int .i64 p] 44)
  have bo := Blk.new (w.alloc (.cells #[.int .i64 s, .int .i64 t, .int .i64 f, .int .i64 l, .int .i64 p] 44)) 86 #[.int .i64 3, .int .i64 0, .int .i64 0]
  replace bx := bx.alloc (.cells #[.int .i64 3, .int .i64 0, .int .i64 0] 86)
  replace B0 := B0.alloc B0.size (.cells #[.int .i64 3, .int .i64 0, .int .i64 0] 86)
  rw [World.size_alloc] at bo
  refine (N.out _).mono ?_
  rintro e w1 ⟨rfl, hb1⟩
  replace bx := bx.below hb1 bx.lt
  replace bo := bo.below hb1 bo.lt
  replace B0 := B0.trans (hb1.mono B0.size)
  clear hb1
  have lx := bx.lt
  have lo := bo.lt
  have mx := fun i => bx.cell i
  have mo := fun i => bo.cell i
  go_wp2_with fail
  go_ret
  exact ⟨rfl, B0⟩
set_option maxHeartbeats 1000000 in
theorem at_node (s t f l p k o i : Int) (w : World) (hs : 1 ≤ s ∧ s ≤ 1000) (ht : 1 ≤ t ∧ t ≤ 64) (hf : 4 ≤ f ∧ f ≤ 64) (hk : k < 1 ∨ 5 < k) :
    Calls Tryd.prog 52 #[.agg #[.int .i64 s, .int .i64 t, .int .i64 f, .int .i64 l, .int .i64 p], .agg #[.int .i64 k, .int .i64 o, .int .i64 i]] w fun e w' => e = .returned (.int .i64 (nod s t f k o i)) ∧ Below w.heap.size w w' := by
  have N := hide (fun w => none_no s t f l p w hs.1)
  have D := hide (fun w => node_any s t f l p (k) (o) (i) w hs ht hf)
  have k1 : (k == 1) = false := by rw [beq_eq_false_iff_ne]; omega
  have k2 : (k == 2) = false := by rw [beq_eq_false_iff_ne]; omega
  have k3 : (k == 3) = false := by rw [beq_eq_false_iff_ne]; omega
  have k4 : (k == 4) = false := by rw [beq_eq_false_iff_ne]; omega
  have k5 : (k == 5) = false := by rw [beq_eq_false_iff_ne]; omega
  clear hk
  generalize nod s t f k o i = R at *
  go_enter Tryd.func52, Tryd.ntmps52
  go_wp2_with fail
  have bx := Blk.new w 44 #[.int .i64 s, .int .i64 t, .int .i64 f, .int .i64 l, .int .i64 p]
  have B0 := (Below.refl w.heap.size w).alloc (Nat.le_refl _) (.cells #[.int .i64 s, .int .i64 t, .int .i64 f, .int .i64 l, .int .i64 p] 44)
  have bo := Blk.new (w.alloc (.cells #[.int .i64 s, .int .i64 t, .int .i64 f, .int .i64 l, .int .i64 p] 44)) 86 #[.int .i64 k, .int .i64 o, .int .i64 i]
  replace bx := bx.alloc (.cells #[.int .i64 k, .int .i64 o, .int .i64 i] 86)
  replace B0 := B0.alloc B0.size (.cells #[.int .i64 k, .int .i64 o, .int .i64 i] 86)
  rw [World.size_alloc] at bo
  refine (N.out _).mono ?_
  rintro e w1 ⟨rfl, hb1⟩
  replace bx := bx.below hb1 bx.lt
  replace bo := bo.below hb1 bo.lt
  replace B0 := B0.trans (hb1.mono B0.size)
  clear hb1
  have lx := bx.lt
  have lo := bo.lt
  have mx := fun i => bx.cell i
  have mo := fun i => bo.cell i
  go_wp2_with fail
  refine (D.out _).mono ?_
  rintro e w2 ⟨rfl, hb2⟩
  go_wp2_with fail
  go_ret
  exact ⟨rfl, B0.trans (hb2.mono B0.size)⟩
set_option maxHeartbeats 1000000 in
theorem at_b1 (s t f l p o i : Int) (w : World) (hs : 1 ≤ s ∧ s ≤ 1000) (ht : 1 ≤ t ∧ t ≤ 64) (hf : 4 ≤ f ∧ f ≤ 64) (ho : (o == 0) = false) :
    Calls Tryd.prog 52 #[.agg #[.int .i64 s, .int .i64 t, .int .i64 f, .int .i64 l, .int .i64 p], .agg #[.int .i64 1, .int .i64 o, .int .i64 i]] w fun e w' => e = .returned (.int .i64 (nod s t f 1 o i)) ∧ Below w.heap.size w w' := by
  have N := hide (fun w => none_no s t f l p w hs.1)
  have D := hide (fun w => node_any s t f l p (1) (o) (i) w hs ht hf)
  generalize nod s t f 1 o i = R at *
  go_enter Tryd.func52, Tryd.ntmps52
  go_wp2_with fail
  have bx := Blk.new w 44 #[.int .i64 s, .int .i64 t, .int .i64 f, .int .i64 l, .int .i64 p]
  have B0 := (Below.refl w.heap.size w).alloc (Nat.le_refl _) (.cells #[.int .i64 s, .int .i64 t, .int .i64 f, .int .i64 l, .int .i64 p] 44)
  have bo := Blk.new (w.alloc (.cells #[.int .i64 s, .int .i64 t, .int .i64 f, .int .i64 l, .int .i64 p] 44)) 86 #[.int .i64 1, .int .i64 o, .int .i64 i]
  replace bx := bx.alloc (.cells #[.int .i64 1, .int .i64 o, .int .i64 i] 86)
  replace B0 := B0.alloc B0.size (.cells #[.int .i64 1, .int .i64 o, .int .i64 i] 86)
  rw [World.size_alloc] at bo
  refine (N.out _).mono ?_
  rintro e w1 ⟨rfl, hb1⟩
  replace bx := bx.below hb1 bx.lt
  replace bo := bo.below hb1 bo.lt
  replace B0 := B0.trans (hb1.mono B0.size)
  clear hb1
  have lx := bx.lt
  have lo := bo.lt
  have mx := fun i => bx.cell i
  have mo := fun i => bo.cell i
  go_wp2_with fail
  refine (D.out _).mono ?_
  rintro e w2 ⟨rfl, hb2⟩
  go_wp2_with fail
  go_ret
  exact ⟨rfl, B0.trans (hb2.mono B0.size)⟩
set_option maxHeartbeats 1000000 in
theorem at_c1 (s t f l p i : Int) (w : World) (hs : 1 ≤ s ∧ s ≤ 1000) (ht : 1 ≤ t ∧ t ≤ 64) (hf : 4 ≤ f ∧ f ≤ 64) (hi : (i == 0) = false) :
    Calls Tryd.prog 52 #[.agg #[.int .i64 s, .int .i64 t, .int .i64 f, .int .i64 l, .int .i64 p], .agg #[.int .i64 1, .int .i64 0, .int .i64 i]] w fun e w' => e = .returned (.int .i64 (nod s t f 1 0 i)) ∧ Below w.heap.size w w' := by
  have N := hide (fun w => none_no s t f l p w hs.1)
  have D := hide (fun w => node_any s t f l p (1) (0) (i) w hs ht hf)
  generalize nod s t f 1 0 i = R at *
  go_enter Tryd.func52, Tryd.ntmps52
  go_wp2_with fail
  have bx := Blk.new w 44 #[.int .i64 s, .int .i64 t, .int .i64 f, .int .i64 l, .int .i64 p]
  have B0 := (Below.refl w.heap.size w).alloc (Nat.le_refl _) (.cells #[.int .i64 s, .int .i64 t, .int .i64 f, .int .i64 l, .int .i64 p] 44)
  have bo := Blk.new (w.alloc (.cells #[.int .i64 s, .int .i64 t, .int .i64 f, .int .i64 l, .int .i64 p] 44)) 86 #[.int .i64 1, .int .i64 0, .int .i64 i]
  replace bx := bx.alloc (.cells #[.int .i64 1, .int .i64 0, .int .i64 i] 86)
  replace B0 := B0.alloc B0.size (.cells #[.int .i64 1, .int .i64 0, .int .i64 i] 86)
  rw [World.size_alloc] at bo
  refine (N.out _).mono ?_
  rintro e w1 ⟨rfl, hb1⟩
  replace bx := bx.below hb1 bx.lt
  replace bo := bo.below hb1 bo.lt
  replace B0 := B0.trans (hb1.mono B0.size)
  clear hb1
  have lx := bx.lt
  have lo := bo.lt
  have mx := fun i => bx.cell i
  have mo := fun i => bo.cell i
  go_wp2_with fail
  refine (D.out _).mono ?_
  rintro e w2 ⟨rfl, hb2⟩
  go_wp2_with fail
  go_ret
  exact ⟨rfl, B0.trans (hb2.mono B0.size)⟩
set_option maxHeartbeats 1000000 in
theorem at_b2 (s t f l p o i : Int) (w : World) (hs : 1 ≤ s ∧ s ≤ 1000) (ht : 1 ≤ t ∧ t ≤ 64) (hf : 4 ≤ f ∧ f ≤ 64) (ho : (o == 0) = false) :
    Calls Tryd.prog 52 #[.agg #[.int .i64 s, .int .i64 t, .int .i64 f, .int .i64 l, .int .i64 p], .agg #[.int .i64 2, .int .i64 o, .int .i64 i]] w fun e w' => e = .returned (.int .i64 (nod s t f 2 o i)) ∧ Below w.heap.size w w' := by
  have N := hide (fun w => none_no s t f l p w hs.1)
  have D := hide (fun w => node_any s t f l p (2) (o) (i) w hs ht hf)
  generalize nod s t f 2 o i = R at *
  go_enter Tryd.func52, Tryd.ntmps52
  go_wp2_with fail
  have bx := Blk.new w 44 #[.int .i64 s, .int .i64 t, .int .i64 f, .int .i64 l, .int .i64 p]
  have B0 := (Below.refl w.heap.size w).alloc (Nat.le_refl _) (.cells #[.int .i64 s, .int .i64 t, .int .i64 f, .int .i64 l, .int .i64 p] 44)
  have bo := Blk.new (w.alloc (.cells #[.int .i64 s, .int .i64 t, .int .i64 f, .int .i64 l, .int .i64 p] 44)) 86 #[.int .i64 2, .int .i64 o, .int .i64 i]
  replace bx := bx.alloc (.cells #[.int .i64 2, .int .i64 o, .int .i64 i] 86)
  replace B0 := B0.alloc B0.size (.cells #[.int .i64 2, .int .i64 o, .int .i64 i] 86)
  rw [World.size_alloc] at bo
  refine (N.out _).mono ?_
  rintro e w1 ⟨rfl, hb1⟩
  replace bx := bx.below hb1 bx.lt
  replace bo := bo.below hb1 bo.lt
  replace B0 := B0.trans (hb1.mono B0.size)
  clear hb1
  have lx := bx.lt
  have lo := bo.lt
  have mx := fun i => bx.cell i
  have mo := fun i => bo.cell i
  go_wp2_with fail
  refine (D.out _).mono ?_
  rintro e w2 ⟨rfl, hb2⟩
  go_wp2_with fail
  go_ret
  exact ⟨rfl, B0.trans (hb2.mono B0.size)⟩
set_option maxHeartbeats 1000000 in
theorem at_c2 (s t f l p i : Int) (w : World) (hs : 1 ≤ s ∧ s ≤ 1000) (ht : 1 ≤ t ∧ t ≤ 64) (hf : 4 ≤ f ∧ f ≤ 64) (hi : (i == 0) = false) :
    Calls Tryd.prog 52 #[.agg #[.int .i64 s, .int .i64 t, .int .i64 f, .int .i64 l, .int .i64 p], .agg #[.int .i64 2, .int .i64 0, .int .i64 i]] w fun e w' => e = .returned (.int .i64 (nod s t f 2 0 i)) ∧ Below w.heap.size w w' := by
  have N := hide (fun w => none_no s t f l p w hs.1)
  have D := hide (fun w => node_any s t f l p (2) (0) (i) w hs ht hf)
  generalize nod s t f 2 0 i = R at *
  go_enter Tryd.func52, Tryd.ntmps52
  go_wp2_with fail
  have bx := Blk.new w 44 #[.int .i64 s, .int .i64 t, .int .i64 f, .int .i64 l, .int .i64 p]
  have B0 := (Below.refl w.heap.size w).alloc (Nat.le_refl _) (.cells #[.int .i64 s, .int .i64 t, .int .i64 f, .int .i64 l, .int .i64 p] 44)
  have bo := Blk.new (w.alloc (.cells #[.int .i64 s, .int .i64 t, .int .i64 f, .int .i64 l, .int .i64 p] 44)) 86 #[.int .i64 2, .int .i64 0, .int .i64 i]
  replace bx := bx.alloc (.cells #[.int .i64 2, .int .i64 0, .int .i64 i] 86)
  replace B0 := B0.alloc B0.size (.cells #[.int .i64 2, .int .i64 0, .int .i64 i] 86)
  rw [World.size_alloc] at bo
  refine (N.out _).mono ?_
  rintro e w1 ⟨rfl, hb1⟩
  replace bx := bx.below hb1 bx.lt
  replace bo := bo.below hb1 bo.lt
  replace B0 := B0.trans (hb1.mono B0.size)
  clear hb1
  have lx := bx.lt
  have lo := bo.lt
  have mx := fun i => bx.cell i
  have mo := fun i => bo.cell i
  go_wp2_with fail
  refine (D.out _).mono ?_
  rintro e w2 ⟨rfl, hb2⟩
  go_wp2_with fail
  go_ret
  exact ⟨rfl, B0.trans (hb2.mono B0.size)⟩
set_option maxHeartbeats 1000000 in
theorem at_b3 (s t f l p o i : Int) (w : World) (hs : 1 ≤ s ∧ s ≤ 1000) (ht : 1 ≤ t ∧ t ≤ 64) (hf : 4 ≤ f ∧ f ≤ 64) (ho : (o == 0) = false) :
    Calls Tryd.prog 52 #[.agg #[.int .i64 s, .int .i64 t, .int .i64 f, .int .i64 l, .int .i64 p], .agg #[.int .i64 3, .int .i64 o, .int .i64 i]] w fun e w' => e = .returned (.int .i64 (nod s t f 3 o i)) ∧ Below w.heap.size w w' := by
  have N := hide (fun w => none_no s t f l p w hs.1)
  have D := hide (fun w => node_any s t f l p (3) (o) (i) w hs ht hf)
  generalize nod s t f 3 o i = R at *
  go_enter Tryd.func52, Tryd.ntmps52
  go_wp2_with fail
  have bx := Blk.new w 44 #[.int .i64 s, .int .i64 t, .int .i64 f, .int .i64 l, .int .i64 p]
  have B0 := (Below.refl w.heap.size w).alloc (Nat.le_refl _) (.cells #[.int .i64 s, .int .i64 t, .int .i64 f, .int .i64 l, .int .i64 p] 44)
  have bo := Blk.new (w.alloc (.cells #[.int .i64 s, .int .i64 t, .int .i64 f, .int .i64 l, .int .i64 p] 44)) 86 #[.int .i64 3, .int .i64 o, .int .i64 i]
  replace bx := bx.alloc (.cells #[.int .i64 3, .int .i64 o, .int .i64 i] 86)
  replace B0 := B0.alloc B0.size (.cells #[.int .i64 3, .int .i64 o, .int .i64 i] 86)
  rw [World.size_alloc] at bo
  refine (N.out _).mono ?_
  rintro e w1 ⟨rfl, hb1⟩
  replace bx := bx.below hb1 bx.lt
  replace bo := bo.below hb1 bo.lt
  replace B0 := B0.trans (hb1.mono B0.size)
  clear hb1
  have lx := bx.lt
  have lo := bo.lt
  have mx := fun i => bx.cell i
  have mo := fun i => bo.cell i
  go_wp2_with fail
  refine (D.out _).mono ?_
  rintro e w2 ⟨rfl, hb2⟩
  go_wp2_with fail
  go_ret
  exact ⟨rfl, B0.trans (hb2.mono B0.size)⟩
set_option maxHeartbeats 1000000 in
theorem at_c3 (s t f l p i : Int) (w : World) (hs : 1 ≤ s ∧ s ≤ 1000) (ht : 1 ≤ t ∧ t ≤ 64) (hf : 4 ≤ f ∧ f ≤ 64) (hi : (i == 0) = false) :
    Calls Tryd.prog 52 #[.agg #[.int .i64 s, .int .i64 t, .int .i64 f, .int .i64 l, .int .i64 p], .agg #[.int .i64 3, .int .i64 0, .int .i64 i]] w fun e w' => e = .returned (.int .i64 (nod s t f 3 0 i)) ∧ Below w.heap.size w w' := by
  have N := hide (fun w => none_no s t f l p w hs.1)
  have D := hide (fun w => node_any s t f l p (3) (0) (i) w hs ht hf)
  generalize nod s t f 3 0 i = R at *
  go_enter Tryd.func52, Tryd.ntmps52
  go_wp2_with fail
  have bx := Blk.new w 44 #[.int .i64 s, .int .i64 t, .int .i64 f, .int .i64 l, .int .i64 p]
  have B0 := (Below.refl w.heap.size w).alloc (Nat.le_refl _) (.cells #[.int .i64 s, .int .i64 t, .int .i64 f, .int .i64 l, .int .i64 p] 44)
  have bo := Blk.new (w.alloc (.cells #[.int .i64 s, .int .i64 t, .int .i64 f, .int .i64 l, .int .i64 p] 44)) 86 #[.int .i64 3, .int .i64 0, .int .i64 i]
  replace bx := bx.alloc (.cells #[.int .i64 3, .int .i64 0, .int .i64 i] 86)
  replace B0 := B0.alloc B0.size (.cells #[.int .i64 3, .int .i64 0, .int .i64 i] 86)
  rw [World.size_alloc] at bo
  refine (N.out _).mono ?_
  rintro e w1 ⟨rfl, hb1⟩
  replace bx := bx.below hb1 bx.lt
  replace bo := bo.below hb1 bo.lt
  replace B0 := B0.trans (hb1.mono B0.size)
  clear hb1
  have lx := bx.lt
  have lo := bo.lt
  have mx := fun i => bx.cell i
  have mo := fun i => bo.cell i
  go_wp2_with fail
  refine (D.out _).mono ?_
  rintro e w2 ⟨rfl, hb2⟩
  go_wp2_with fail
  go_ret
  exact ⟨rfl, B0.trans (hb2.mono B0.size)⟩
set_option maxHeartbeats 1000000 in
theorem at_4i (s t f l p o i : Int) (w : World) (hs : 1 ≤ s ∧ s ≤ 1000) (ht : 1 ≤ t ∧ t ≤ 64) (hf : 4 ≤ f ∧ f ≤ 64) (hi : (i == 0) = false) :
    Calls Tryd.prog 52 #[.agg #[.int .i64 s, .int .i64 t, .int .i64 f, .int .i64 l, .int .i64 p], .agg #[.int .i64 4, .int .i64 o, .int .i64 i]] w fun e w' => e = .returned (.int .i64 (nod s t f 4 o i)) ∧ Below w.heap.size w w' := by
  have N := hide (fun w => none_no s t f l p w hs.1)
  have D := hide (fun w => node_any s t f l p (4) (o) (i) w hs ht hf)
  generalize nod s t f 4 o i = R at *
  go_enter Tryd.func52, Tryd.ntmps52
  go_wp2_with fail
  have bx := Blk.new w 44 #[.int .i64 s, .int .i64 t, .int .i64 f, .int .i64 l, .int .i64 p]
  have B0 := (Below.refl w.heap.size w).alloc (Nat.le_refl _) (.cells #[.int .i64 s, .int .i64 t, .int .i64 f, .int .i64 l, .int .i64 p] 44)
  have bo := Blk.new (w.alloc (.cells #[.int .i64 s, .int .i64 t, .int .i64 f, .int .i64 l, .int .i64 p] 44)) 86 #[.int .i64 4, .int .i64 o, .int .i64 i]
  replace bx := bx.alloc (.cells #[.int .i64 4, .int .i64 o, .int .i64 i] 86)
  replace B0 := B0.alloc B0.size (.cells #[.int .i64 4, .int .i64 o, .int .i64 i] 86)
  rw [World.size_alloc] at bo
  refine (N.out _).mono ?_
  rintro e w1 ⟨rfl, hb1⟩
  replace bx := bx.below hb1 bx.lt
  replace bo := bo.below hb1 bo.lt
  replace B0 := B0.trans (hb1.mono B0.size)
  clear hb1
  have lx := bx.lt
  have lo := bo.lt
  have mx := fun i => bx.cell i
  have mo := fun i => bo.cell i
  go_wp2_with fail
  refine (D.out _).mono ?_
  rintro e w2 ⟨rfl, hb2⟩
  go_wp2_with fail
  go_ret
  exact ⟨rfl, B0.trans (hb2.mono B0.size)⟩
set_option maxHeartbeats 1000000 in
theorem at_4o (s t f l p o : Int) (w : World) (hs : 1 ≤ s ∧ s ≤ 1000) (ht : 1 ≤ t ∧ t ≤ 64) (hf : 4 ≤ f ∧ f ≤ 64) (ho : o < 0 ∨ t ≤ o) :
    Calls Tryd.prog 52 #[.agg #[.int .i64 s, .int .i64 t, .int .i64 f, .int .i64 l, .int .i64 p], .agg #[.int .i64 4, .int .i64 o, .int .i64 0]] w fun e w' => e = .returned (.int .i64 (nod s t f 4 o 0)) ∧ Below w.heap.size w w' := by
  have N := hide (fun w => none_no s t f l p w hs.1)
  have D := hide (fun w => node_any s t f l p (4) (o) (0) w hs ht hf)
  have W1 := hide (fun w => within_f o t w ho)
  clear ho
  generalize nod s t f 4 o 0 = R at *
  go_enter Tryd.func52, Tryd.ntmps52
  go_wp2_with fail
  have bx := Blk.new w 44 #[.int .i64 s, .int .i64 t, .int .i64 f, .int .i64 l, .int .i64 p]
  have B0 := (Below.refl w.heap.size w).alloc (Nat.le_refl _) (.cells #[.int .i64 s, .int .i64 t, .int .i64 f, .int .i64 l, .int .i64 p] 44)
  have bo := Blk.new (w.alloc (.cells #[.int .i64 s, .int .i64 t, .int .i64 f, .int .i64 l, .int .i64 p] 44)) 86 #[.int .i64 4, .int .i64 o, .int .i64 0]
  replace bx := bx.alloc (.cells #[.int .i64 4, .int .i64 o, .int .i64 0] 86)
  replace B0 := B0.alloc B0.size (.cells #[.int .i64 4, .int .i64 o, .int .i64 0] 86)
  rw [World.size_alloc] at bo
  refine (N.out _).mono ?_
  rintro e w1 ⟨rfl, hb1⟩
  replace bx := bx.below hb1 bx.lt
  replace bo := bo.below hb1 bo.lt
  replace B0 := B0.trans (hb1.mono B0.size)
  clear hb1
  have lx := bx.lt
  have lo := bo.lt
  have mx := fun i => bx.cell i
  have mo := fun i => bo.cell i
  go_wp2_with fail
  refine (W1.out _).mono ?_
  rintro e w' ⟨rfl, rfl⟩
  go_wp2_with fail
  refine (D.out _).mono ?_
  rintro e w2 ⟨rfl, hb2⟩
  go_wp2_with fail
  go_ret
  exact ⟨rfl, B0.trans (hb2.mono B0.size)⟩
set_option maxHeartbeats 1000000 in
theorem at_4 (s t f l p o : Int) (w : World) (hs : 1 ≤ s ∧ s ≤ 1000) (ht : 1 ≤ t ∧ t ≤ 64) (ho : 0 ≤ o ∧ o < t) :
    Calls Tryd.prog 52 #[.agg #[.int .i64 s, .int .i64 t, .int .i64 f, .int .i64 l, .int .i64 p], .agg #[.int .i64 4, .int .i64 o, .int .i64 0]] w fun e w' => e = .returned (.int .i64 (3 + o)) ∧ Below w.heap.size w w' := by
  have N := hide (fun w => none_no s t f l p w hs.1)
  have W1 := hide (fun w => within_t o t w ho.1 ho.2)
  have h3 : IntKind.i64.wrap (3 + o) = 3 + o := IntWalk.i64_in _ (by omega)
  clear ho hs ht
  go_enter Tryd.func52, Tryd.ntmps52
  go_wp2_with fail
  have bx := Blk.new w 44 #[.int .i64 s, .int .i64 t, .int .i64 f, .int .i64 l, .int .i64 p]
  have B0 := (Below.refl w.heap.size w).alloc (Nat.le_refl _) (.cells #[.int .i64 s, .int .i64 t, .int .i64 f, .int .i64 l, .int .i64 p] 44)
  have bo := Blk.new (w.alloc (.cells #[.int .i64 s, .int .i64 t, .int .i64 f, .int .i64 l, .int .i64 p] 44)) 86 #[.int .i64 4, .int .i64 o, .int .i64 0]
  replace bx := bx.alloc (.cells #[.int .i64 4, .int .i64 o, .int .i64 0] 86)
  replace B0 := B0.alloc B0.size (.cells #[.int .i64 4, .int .i64 o, .int .i64 0] 86)
  rw [World.size_alloc] at bo
  refine (N.out _).mono ?_
  rintro e w1 ⟨rfl, hb1⟩
  replace bx := bx.below hb1 bx.lt
  replace bo := bo.below hb1 bo.lt
  replace B0 := B0.trans (hb1.mono B0.size)
  clear hb1
  have lx := bx.lt
  have lo := bo.lt
  have mx := fun i => bx.cell i
  have mo := fun i => bo.cell i
  go_wp2_with fail
  refine (W1.out _).mono ?_
  rintro e w' ⟨rfl, rfl⟩
  go_wp2_with fail
  refine wp_region_past (by kernel_rfl) (by kernel_rfl) ?_
  repeat (quiet_step ((first | ((exact calls_past (announces_any _ _ _ _ _ _))))))
  refine wpQuiet_nil ?_
  intro _ hw'
  obtain ⟨y, hw''⟩ := hw'
  subst hw''
  have hy := past_below w1 y
  go_wp2_with fail
  go_ret
  exact ⟨rfl, B0.trans (hy.mono B0.size)⟩
set_option maxHeartbeats 1000000 in
theorem at_5i (s t f l p o i : Int) (w : World) (hs : 1 ≤ s ∧ s ≤ 1000) (ht : 1 ≤ t ∧ t ≤ 64) (hf : 4 ≤ f ∧ f ≤ 64) (hi : i < 0 ∨ 2 ≤ i) :
    Calls Tryd.prog 52 #[.agg #[.int .i64 s, .int .i64 t, .int .i64 f, .int .i64 l, .int .i64 p], .agg #[.int .i64 5, .int .i64 o, .int .i64 i]] w fun e w' => e = .returned (.int .i64 (nod s t f 5 o i)) ∧ Below w.heap.size w w' := by
  have N := hide (fun w => none_no s t f l p w hs.1)
  have D := hide (fun w => node_any s t f l p (5) (o) (i) w hs ht hf)
  have W1 := hide (fun w => within_f i 2 w hi)
  clear hi
  generalize nod s t f 5 o i = R at *
  go_enter Tryd.func52, Tryd.ntmps52
  go_wp2_with fail
  have bx := Blk.new w 44 #[.int .i64 s, .int .i64 t, .int .i64 f, .int .i64 l, .int .i64 p]
  have B0 := (Below.refl w.heap.size w).alloc (Nat.le_refl _) (.cells #[.int .i64 s, .int .i64 t, .int .i64 f, .int .i64 l, .int .i64 p] 44)
  have bo := Blk.new (w.alloc (.cells #[.int .i64 s, .int .i64 t, .int .i64 f, .int .i64 l, .int .i64 p] 44)) 86 #[.int .i64 5, .int .i64 o, .int .i64 i]
  replace bx := bx.alloc (.cells #[.int .i64 5, .int .i64 o, .int .i64 i] 86)
  replace B0 := B0.alloc B0.size (.cells #[.int .i64 5, .int .i64 o, .int .i64 i] 86)
  rw [World.size_alloc] at bo
  refine (N.out _).mono ?_
  rintro e w1 ⟨rfl, hb1⟩
  replace bx := bx.below hb1 bx.lt
  replace bo := bo.below hb1 bo.lt
  replace B0 := B0.trans (hb1.mono B0.size)
  clear hb1
  have lx := bx.lt
  have lo := bo.lt
  have mx := fun i => bx.cell i
  have mo := fun i => bo.cell i
  go_wp2_with fail
  refine (W1.out _).mono ?_
  rintro e w' ⟨rfl, rfl⟩
  go_wp2_with fail
  refine (D.out _).mono ?_
  rintro e w2 ⟨rfl, hb2⟩
  go_wp2_with fail
  go_ret
  exact ⟨rfl, B0.trans (hb2.mono B0.size)⟩
set_option maxHeartbeats 1000000 in
theorem at_5o (s t f l p o i : Int) (w : World) (hs : 1 ≤ s ∧ s ≤ 1000) (ht : 1 ≤ t ∧ t ≤ 64) (hf : 4 ≤ f ∧ f ≤ 64) (hi : 0 ≤ i ∧ i < 2) (ho : o < 0 ∨ t ≤ o) :
    Calls Tryd.prog 52 #[.agg #[.int .i64 s, .int .i64 t, .int .i64 f, .int .i64 l, .int .i64 p], .agg #[.int .i64 5, .int .i64 o, .int .i64 i]] w fun e w' => e = .returned (.int .i64 (nod s t f 5 o i)) ∧ Below w.heap.size w w' := by
  have N := hide (fun w => none_no s t f l p w hs.1)
  have D := hide (fun w => node_any s t f l p (5) (o) (i) w hs ht hf)
  have W1 := hide (fun w => within_t i 2 w hi.1 hi.2)
  have W2 := hide (fun w => within_f o t w ho)
  clear hi ho
  generalize nod s t f 5 o i = R at *
  go_enter Tryd.func52, Tryd.ntmps52
  go_wp2_with fail
  have bx := Blk.new w 44 #[.int .i64 s, .int .i64 t, .int .i64 f, .int .i64 l, .int .i64 p]
  have B0 := (Below.refl w.heap.size w).alloc (Nat.le_refl _) (.cells #[.int .i64 s, .int .i64 t, .int .i64 f, .int .i64 l, .int .i64 p] 44)
  have bo := Blk.new (w.alloc (.cells #[.int .i64 s, .int .i64 t, .int .i64 f, .int .i64 l, .int .i64 p] 44)) 86 #[.int .i64 5, .int .i64 o, .int .i64 i]
  replace bx := bx.alloc (.cells #[.int .i64 5, .int .i64 o, .int .i64 i] 86)
  replace B0 := B0.alloc B0.size (.cells #[.int .i64 5, .int .i64 o, .int .i64 i] 86)
  rw [World.size_alloc] at bo
  refine (N.out _).mono ?_
  rintro e w1 ⟨rfl, hb1⟩
  replace bx := bx.below hb1 bx.lt
  replace bo := bo.below hb1 bo.lt
  replace B0 := B0.trans (hb1.mono B0.size)
  clear hb1
  have lx := bx.lt
  have lo := bo.lt
  have mx := fun i => bx.cell i
  have mo := fun i => bo.cell i
  go_wp2_with fail
  refine (W1.out _).mono ?_
  rintro e w' ⟨rfl, rfl⟩
  go_wp2_with fail
  refine (W2.out _).mono ?_
  rintro e w' ⟨rfl, rfl⟩
  go_wp2_with fail
  refine (D.out _).mono ?_
  rintro e w2 ⟨rfl, hb2⟩
  go_wp2_with fail
  go_ret
  exact ⟨rfl, B0.trans (hb2.mono B0.size)⟩
set_option maxHeartbeats 1000000 in
theorem at_5 (s t f l p o i : Int) (w : World) (hs : 1 ≤ s ∧ s ≤ 1000) (ht : 1 ≤ t ∧ t ≤ 64) (hi : 0 ≤ i ∧ i < 2) (ho : 0 ≤ o ∧ o < t) :
    Calls Tryd.prog 52 #[.agg #[.int .i64 s, .int .i64 t, .int .i64 f, .int .i64 l, .int .i64 p], .agg #[.int .i64 5, .int .i64 o, .int .i64 i]] w fun e w' => e = .returned (.int .i64 (3 + t + 2 * o + i)) ∧ Below w.heap.size w w' := by
  have N := hide (fun w => none_no s t f l p w hs.1)
  have W1 := hide (fun w => within_t i 2 w hi.1 hi.2)
  have W2 := hide (fun w => within_t o t w ho.1 ho.2)
  have H := hide (fun w => hazards_any s t f l p w ht)
  have h2 : IntKind.i64.wrap (2 * o) = 2 * o := IntWalk.i64_in _ (by omega)
  have h3 : IntKind.i64.wrap (3 + t + 2 * o) = 3 + t + 2 * o := IntWalk.i64_in _ (by omega)
  have h4 : IntKind.i64.wrap (3 + t + 2 * o + i) = 3 + t + 2 * o + i := IntWalk.i64_in _ (by omega)
  clear ho hs ht hi
  go_enter Tryd.func52, Tryd.ntmps52
  go_wp2_with fail
  have bx := Blk.new w 44 #[.int .i64 s, .int .i64 t, .int .i64 f, .int .i64 l, .int .i64 p]
  have B0 := (Below.refl w.heap.size w).alloc (Nat.le_refl _) (.cells #[.int .i64 s, .int .i64 t, .int .i64 f, .int .i64 l, .int .i64 p] 44)
  have bo := Blk.new (w.alloc (.cells #[.int .i64 s, .int .i64 t, .int .i64 f, .int .i64 l, .int .i64 p] 44)) 86 #[.int .i64 5, .int .i64 o, .int .i64 i]
  replace bx := bx.alloc (.cells #[.int .i64 5, .int .i64 o, .int .i64 i] 86)
  replace B0 := B0.alloc B0.size (.cells #[.int .i64 5, .int .i64 o, .int .i64 i] 86)
  rw [World.size_alloc] at bo
  refine (N.out _).mono ?_
  rintro e w1 ⟨rfl, hb1⟩
  replace bx := bx.below hb1 bx.lt
  replace bo := bo.below hb1 bo.lt
  replace B0 := B0.trans (hb1.mono B0.size)
  clear hb1
  have lx := bx.lt
  have lo := bo.lt
  have mx := fun i => bx.cell i
  have mo := fun i => bo.cell i
  go_wp2_with fail
  refine (W1.out _).mono ?_
  rintro e w' ⟨rfl, rfl⟩
  go_wp2_with fail
  refine (W2.out _).mono ?_
  rintro e w' ⟨rfl, rfl⟩
  go_wp2_with fail
  refine wp_region_past (by kernel_rfl) (by kernel_rfl) ?_
  repeat (quiet_step ((first | ((exact calls_past (H.out _))))))
  refine wpQuiet_nil ?_
  intro _ hw'
  obtain ⟨y, hw''⟩ := hw'
  subst hw''
  have hy := past_below w1 y
  go_wp2_with fail
  go_ret
  exact ⟨rfl, B0.trans (hy.mono B0.size)⟩
set_option maxHeartbeats 1000000 in
theorem at_zero (k o i : Int) (w : World) :
    Calls Tryd.prog 52 #[.agg #[.int .i64 0, .int .i64 0, .int .i64 0, .int .i64 0, .int .i64 0], .agg #[.int .i64 k, .int .i64 o, .int .i64 i]] w fun e w' => e = .returned (.int .i64 (-1)) ∧ Below w.heap.size w w' := by
  have N := hide none_yes
  go_enter Tryd.func52, Tryd.ntmps52
  go_wp2_with fail
  have B0 := (Below.refl w.heap.size w).alloc (Nat.le_refl _) (.cells #[.int .i64 0, .int .i64 0, .int .i64 0, .int .i64 0, .int .i64 0] 44)
  replace B0 := B0.alloc B0.size (.cells #[.int .i64 k, .int .i64 o, .int .i64 i] 86)
  refine (N.out _).mono ?_
  rintro e w1 ⟨rfl, hb1⟩
  go_wp2_with fail
  go_ret
  exact ⟨rfl, B0.trans (hb1.mono B0.size)⟩

/-- At, whatever the place. -/
theorem at_any (s t f l p k o i : Int) (w : World) (hs : 1 ≤ s ∧ s ≤ 1000) (ht : 1 ≤ t ∧ t ≤ 64) (hf : 4 ≤ f ∧ f ≤ 64) :
    Calls Tryd.prog 52 #[.agg #[.int .i64 s, .int .i64 t, .int .i64 f, .int .i64 l, .int .i64 p], .agg #[.int .i64 k, .int .i64 o, .int .i64 i]] w fun e w' => e = .returned (.int .i64 (atp s t f k o i)) ∧ Below w.heap.size w w' := by
  by_cases c1 : 1 ≤ k ∧ k ≤ 3 ∧ o = 0 ∧ i = 0
  · rw [show atp s t f k o i = k - 1 from if_pos c1]
    obtain ⟨h1, h2, rfl, rfl⟩ := c1
    have hk : k = 1 ∨ k = 2 ∨ k = 3 := by omega
    rcases hk with rfl | rfl | rfl
    · exact at_first1 s t f l p w hs.1
    · exact at_first2 s t f l p w hs.1
    · exact at_first3 s t f l p w hs.1
  by_cases c2 : k = 4 ∧ i = 0 ∧ 0 ≤ o ∧ o < t
  · rw [show atp s t f k o i = 3 + o by unfold atp; rw [if_neg c1, if_pos c2]]
    obtain ⟨rfl, rfl, h1, h2⟩ := c2
    exact at_4 s t f l p o w hs ht ⟨h1, h2⟩
  by_cases c3 : k = 5 ∧ 0 ≤ i ∧ i < 2 ∧ 0 ≤ o ∧ o < t
  · rw [show atp s t f k o i = 3 + t + 2 * o + i by unfold atp; rw [if_neg c1, if_neg c2, if_pos c3]]
    obtain ⟨rfl, h1, h2, h3, h4⟩ := c3
    exact at_5 s t f l p o i w hs ht ⟨h1, h2⟩ ⟨h3, h4⟩
  rw [show atp s t f k o i = nod s t f k o i by unfold atp; rw [if_neg c1, if_neg c2, if_neg c3]]
  by_cases hk : k < 1 ∨ 5 < k
  · exact at_node s t f l p k o i w hs ht hf hk
  have hk5 : k = 1 ∨ k = 2 ∨ k = 3 ∨ k = 4 ∨ k = 5 := by omega
  rcases hk5 with rfl | rfl | rfl | rfl | rfl
  · by_cases ho : o = 0
    · subst ho
      exact at_c1 s t f l p i w hs ht hf (by simp; omega)
    · exact at_b1 s t f l p o i w hs ht hf (by simpa using ho)
  · by_cases ho : o = 0
    · subst ho
      exact at_c2 s t f l p i w hs ht hf (by simp; omega)
    · exact at_b2 s t f l p o i w hs ht hf (by simpa using ho)
  · by_cases ho : o = 0
    · subst ho
      exact at_c3 s t f l p i w hs ht hf (by simp; omega)
    · exact at_b3 s t f l p o i w hs ht hf (by simpa using ho)
  · by_cases hi : i = 0
    · subst hi
      exact at_4o s t f l p o w hs ht hf (by omega)
    · exact at_4i s t f l p o i w hs ht hf (by simpa using hi)
  · by_cases hi : i < 0 ∨ 2 ≤ i
    · exact at_5i s t f l p o i w hs ht hf hi
    · exact at_5o s t f l p o i w hs ht hf (by omega) (by omega)
end Go.Proofs.YtokcbipmocpllaaDoor

/-
  gleaningref07.Numbers, Wrong; gleaningref08.Size, Place.
-/
namespace Go.Proofs.YtokcbipmocpllaaDoor
open Go.RowKit
attribute [local go_sem] past_cell past_cell_add

/-- The place of the first number that is out of its bounds; -1: there is none. -/
def wrg (s t f l p : Int) : Int := if ¬ (1 ≤ s ∧ s ≤ 1000) then 0 else if ¬ (1 ≤ t ∧ t ≤ 64) then 1 else if ¬ (4 ≤ f ∧ f ≤ 64) then 2 else if ¬ (1 ≤ l ∧ l ≤ 64) then 3 else if ¬ (1 ≤ p ∧ p ≤ 1048576) then 4 else -1
theorem wrg_ok {s t f l p : Int} : cfgOk s t f l p = decide (wrg s t f l p < 0) := by
  rw [Bool.eq_iff_iff, cfgOk_iff, decide_eq_true_eq]
  unfold wrg
  repeat' split
  all_goals omega
theorem wrg_none {s t f l p : Int} (h : ∀ k, k < 5 → cIn s t f l p k) : wrg s t f l p = -1 := by
  have h0 : 1 ≤ s ∧ s ≤ 1000 := h 0 (by omega)
  have h1 : 1 ≤ t ∧ t ≤ 64 := h 1 (by omega)
  have h2 : 4 ≤ f ∧ f ≤ 64 := h 2 (by omega)
  have h3 : 1 ≤ l ∧ l ≤ 64 := h 3 (by omega)
  have h4 : 1 ≤ p ∧ p ≤ 1048576 := h 4 (by omega)
  unfold wrg
  rw [if_neg (by omega), if_neg (by omega), if_neg (by omega), if_neg (by omega), if_neg (by omega)]
theorem wrg_at {s t f l p : Int} {k : Nat} (hk : k < 5) (h : ∀ j, j < k → cIn s t f l p j) (hn : ¬ cIn s t f l p k) : wrg s t f l p = k := by
  unfold wrg
  rcases five hk with rfl | rfl | rfl | rfl | rfl
  · have h0 : ¬ (1 ≤ s ∧ s ≤ 1000) := hn
    rw [if_pos h0]
    rfl
  · have h0 : 1 ≤ s ∧ s ≤ 1000 := h 0 (by omega)
    have h1 : ¬ (1 ≤ t ∧ t ≤ 64) := hn
    rw [if_neg (by omega), if_pos h1]
    rfl
  · have h0 : 1 ≤ s ∧ s ≤ 1000 := h 0 (by omega)
    have h1 : 1 ≤ t ∧ t ≤ 64 := h 1 (by omega)
    have h2 : ¬ (4 ≤ f ∧ f ≤ 64) := hn
    rw [if_neg (by omega), if_neg (by omega), if_pos h2]
    rfl
  · have h0 : 1 ≤ s ∧ s ≤ 1000 := h 0 (by omega)
    have h1 : 1 ≤ t ∧ t ≤ 64 := h 1 (by omega)
    have h2 : 4 ≤ f ∧ f ≤ 64 := h 2 (by omega)
    have h3 : ¬ (1 ≤ l ∧ l ≤ 64) := hn
    rw [if_neg (by omega), if_neg (by omega), if_neg (by omega), if_pos h3]
    rfl
  · have h0 : 1 ≤ s ∧ s ≤ 1000 := h 0 (by omega)
    have h1 : 1 ≤ t ∧ t ≤ 64 := h 1 (by omega)
    have h2 : 4 ≤ f ∧ f ≤ 64 := h 2 (by omega)
    have h3 : 1 ≤ l ∧ l ≤ 64 := h 3 (by omega)
    have h4 : ¬ (1 ≤ p ∧ p ≤ 1048576) := hn
    rw [if_neg (by omega), if_neg (by omega), if_neg (by omega), if_neg (by omega), if_pos h4]
    rfl

set_option maxHeartbeats 400000 in
theorem numbers_any (s t f l p : Int) (w : World) :
    Calls Tryd.prog 33 #[.agg #[.int .i64 s, .int .i64 t, .int .i64 f, .int .i64 l, .int .i64 p]] w fun e w' => (∃ g, e = .returned (.slice (some ⟨g, 0, none⟩) 5 5) ∧ Blk w' g 3 (numA s t f l p)) ∧ Below w.heap.size w w' := by
  go_enter Tryd.func33, Tryd.ntmps33
  go_wp2_with fail
  go_ret
  have h := fun o => Blk.new (w.alloc o) 3 (numA s t f l p)
  simp only [World.size_alloc] at h
  exact ⟨⟨_, rfl, h _⟩, ((Below.refl _ _).alloc (Nat.le_refl _) _).alloc (by simp only [World.size_alloc]; omega) _⟩

set_option maxHeartbeats 1000000 in
theorem wrong_any (s t f l p : Int) (w : World) :
    Calls Tryd.prog 10 #[.agg #[.int .i64 s, .int .i64 t, .int .i64 f, .int .i64 l, .int .i64 p]] w fun e w' => e = .returned (.int .i64 (wrg s t f l p)) ∧ Below w.heap.size w w' := by
  have C := hide (fun w2 => numbers_any s t f l p w2)
  have WN := hide (fun h => wrg_none (s := s) (t := t) (f := f) (l := l) (p := p) h)
  have WA := hide (fun k hk h hn => wrg_at (s := s) (t := t) (f := f) (l := l) (p := p) (k := k) hk h hn)
  generalize wrg s t f l p = R at *
  go_enter Tryd.func10, Tryd.ntmps10
  go_wp2_with fail
  have B0 := (Below.refl w.heap.size w).alloc (Nat.le_refl _) (.cells #[.int .i64 s, .int .i64 t, .int .i64 f, .int .i64 l, .int .i64 p] 36)
  refine (C.out _).mono ?_
  rintro e w1 ⟨⟨g1, rfl, b1⟩, hb1⟩
  replace B0 := B0.trans (hb1.mono B0.size)
  have H1 := hide b1
  have HB := hide B0
  clear b1 hb1 B0
  go_wp2_with fail
  have b1 := (H1.out.alloc (.cells #[.int .i64 1, .int .i64 1, .int .i64 4, .int .i64 1, .int .i64 1] 3)).alloc (.cells #[.int .i64 1000, .int .i64 64, .int .i64 64, .int .i64 64, .int .i64 1048576] 3)
  have b2 := (Blk.new w1 3 #[.int .i64 1, .int .i64 1, .int .i64 4, .int .i64 1, .int .i64 1]).alloc (.cells #[.int .i64 1000, .int .i64 64, .int .i64 64, .int .i64 64, .int .i64 1048576] 3)
  have b3 := Blk.new (w1.alloc (.cells #[.int .i64 1, .int .i64 1, .int .i64 4, .int .i64 1, .int .i64 1] 3)) 3 #[.int .i64 1000, .int .i64 64, .int .i64 64, .int .i64 64, .int .i64 1048576]
  have B0 := (HB.out.alloc HB.out.size (.cells #[.int .i64 1, .int .i64 1, .int .i64 4, .int .i64 1, .int .i64 1] 3)).alloc (by have := HB.out.size; simp only [World.size_alloc]; omega) (.cells #[.int .i64 1000, .int .i64 64, .int .i64 64, .int .i64 64, .int .i64 1048576] 3)
  rw [World.size_alloc] at b3
  generalize (w1.alloc (.cells #[.int .i64 1, .int .i64 1, .int .i64 4, .int .i64 1, .int .i64 1] 3)).alloc (.cells #[.int .i64 1000, .int .i64 64, .int .i64 64, .int .i64 64, .int .i64 1048576] 3) = w2 at *
  have b2 : Blk w2 w1.heap.size 3 (numA 1 1 4 1 1) := b2
  have b3 : Blk w2 (w1.heap.size + 1) 3 (numA 1000 64 64 64 1048576) := b3
  have H1 := hide b1
  have H2 := hide b2
  have H3 := hide b3
  have HB := hide B0
  clear b1 b2 b3 B0
  go_loopw [6] (ChkIn w2 (cIn s t f l p)) (fun i _ => 5 - (intOf i).toNat)
  case atStart => exact ⟨0, rfl, by omega, fun j h => absurd h (by omega), Below.refl _ _⟩
  case round =>
    obtain ⟨k, rfl, hk, hok, hb⟩ := hrel
    have HOK := hide hok
    clear hok
    by_cases hlt : k < 5
    · have z0 := ((H1.out.below hb H1.out.lt).cell k).trans (numA_at s t f l p hlt)
      have z1 := ((H2.out.below hb H2.out.lt).cell k).trans (lo_at hlt)
      have z2 := ((H3.out.below hb H3.out.lt).cell k).trans (hi_at hlt)
      have HI := hide (show cIn s t f l p k ↔ (cLo k ≤ cN s t f l p k ∧ cN s t f l p k ≤ cHi k) from Iff.rfl)
      have hkz : (0 : Int) ≤ (k : Int) := by omega
      have hkz5 : (k : Int) < 5 := by omega
      generalize cN s t f l p k = n at *
      generalize cLo k = lo at *
      generalize cHi k = hi at *
      by_cases c1 : n < lo
      · have E := hide (WA.out k hlt HOK.out (fun h => by have := HI.out.1 h; omega))
        have d1 : decide (n < lo) = true := by simpa using c1
        go_wp2_with fail
        go_quiet (fail)
        go_wp2_with fail
        go_ret
        exact ⟨by rw [E.out]; rfl, HB.out.trans ((below_drewN hb _).mono HB.out.size)⟩
      have d1 : decide (n < lo) = false := by simpa using c1
      by_cases c2 : hi < n
      · have E := hide (WA.out k hlt HOK.out (fun h => by have := HI.out.1 h; omega))
        have d2 : decide (hi < n) = true := by simpa using c2
        go_wp2_with fail
        go_quiet (fail)
        go_wp2_with fail
        go_ret
        exact ⟨by rw [E.out]; rfl, HB.out.trans ((below_drewN hb _).mono HB.out.size)⟩
      · have E := hide (HI.out.2 ⟨by omega, by omega⟩)
        have d2 : decide (hi < n) = false := by simpa using c2
        go_wp2_with fail
        go_quiet (fail)
        go_wp2_with fail
        go_roundw
        case rel => exact ⟨k + 1, by go_num, by omega, fun j hj => by
          by_cases e : j = k
          · subst e
            exact E.out
          · exact HOK.out j (by omega), below_drewN hb _⟩
        case measure => simp [intOf]; omega
    · obtain rfl : k = 5 := by omega
      have E := hide (WN.out HOK.out)
      go_wp2_with fail
      go_ret
      exact ⟨by rw [E.out]; rfl, HB.out.trans (hb.mono HB.out.size)⟩

/-- How many words there are; none where the configuration may not be. -/
def rSize (s t f l p : Int) : Int := if cfgOk s t f l p = true then laySize s t f else 0
set_option maxHeartbeats 1000000 in
theorem rsize_any (s t f l p : Int) (w : World) :
    Calls Tryd.prog 11 #[.agg #[.int .i64 s, .int .i64 t, .int .i64 f, .int .i64 l, .int .i64 p]] w fun e w' => e = .returned (.int .i64 (rSize s t f l p)) ∧ Below w.heap.size w w' := by
  have C := hide (fun w2 => wrong_any s t f l p w2)
  have hok := wrg_ok (s := s) (t := t) (f := f) (l := l) (p := p)
  have bx := Blk.new w 36 #[.int .i64 s, .int .i64 t, .int .i64 f, .int .i64 l, .int .i64 p]
  have B0 := (Below.refl w.heap.size w).alloc (Nat.le_refl _) (.cells #[.int .i64 s, .int .i64 t, .int .i64 f, .int .i64 l, .int .i64 p] 36)
  cases hc : cfgOk s t f l p with
  | false =>
    have E := hide (show rSize s t f l p = 0 by unfold rSize; rw [hc]; rfl)
    rw [hc] at hok
    have hw : 0 ≤ wrg s t f l p := by
      have : ¬ wrg s t f l p < 0 := by simpa using hok.symm
      omega
    clear hok hc
    generalize wrg s t f l p = r at *
    go_enter Tryd.func11, Tryd.ntmps11
    go_wp2_with fail
    refine (C.out _).mono ?_
    rintro e w1 ⟨rfl, hb1⟩
    go_wp2_with fail
    go_ret
    exact ⟨by rw [E.out]; rfl, B0.trans (hb1.mono B0.size)⟩
  | true =>
    have E := hide (show rSize s t f l p = laySize s t f by unfold rSize; rw [hc]; rfl)
    rw [hc] at hok
    have hw : wrg s t f l p < 0 := by simpa using hok.symm
    have hb := cfgOk_iff.1 hc
    have z := size_pos (s := s) (t := t) (f := f) (by omega) (by omega) (by omega)
    have h0 : IntKind.i64.wrap (3 * t) = 3 * t := IntWalk.i64_in _ (by omega)
    have h1 : IntKind.i64.wrap (3 + 3 * t) = 3 + 3 * t := IntWalk.i64_in _ (by omega)
    have h2 : IntKind.i64.wrap (2 * f) = 2 * f := IntWalk.i64_in _ (by omega)
    have h3 : IntKind.i64.wrap (s + 1) = s + 1 := IntWalk.i64_in _ (by omega)
    have h4 : IntKind.i64.wrap ((s + 1) * (3 + 2 * f)) = (s + 1) * (3 + 2 * f) := IntWalk.i64_in _ (by unfold laySize at z; omega)
    have h5 : IntKind.i64.wrap (3 + 3 * t + (s + 1) * (3 + 2 * f)) = laySize s t f := by unfold laySize at z ⊢; exact IntWalk.i64_in _ (by omega)
    have h6 : IntKind.i64.wrap (3 + 2 * f) = 3 + 2 * f := IntWalk.i64_in _ (by omega)
    clear hok hc z hb
    generalize laySize s t f = R at *
    generalize wrg s t f l p = r at *
    go_enter Tryd.func11, Tryd.ntmps11
    go_wp2_with fail
    refine (C.out _).mono ?_
    rintro e w1 ⟨rfl, hb1⟩
    replace bx := bx.below hb1 bx.lt
    replace B0 := B0.trans (hb1.mono B0.size)
    clear hb1
    have mx := fun i => bx.cell i
    go_wp2_with fail

    go_ret
    exact ⟨by rw [E.out]; rfl, B0⟩
end Go.Proofs.YtokcbipmocpllaaDoor

/-
  layout: Announce, Hazard, Link (for seats without chapter 8's statements); the document's own numbers of them.
-/
namespace Go.Proofs.YtokcbipmocpllaaDoor
open Go.RowKit
attribute [local go_sem] past_cell past_cell_add

set_option maxHeartbeats 400000 in
theorem lhaz_any (s t f l p o i : Int) (w : World) (hs : 1 ≤ s ∧ s ≤ 1000) (ht : 1 ≤ t ∧ t ≤ 64) (hf : 4 ≤ f ∧ f ≤ 64) :
    Calls Tryd.prog 53 #[.agg #[.int .i64 s, .int .i64 t, .int .i64 f, .int .i64 l, .int .i64 p], .int .i64 o, .int .i64 i] w fun e w' => e = .returned (.int .i64 (atp s t f 5 o i)) ∧ Below w.heap.size w w' := by
  have A := hide (fun w => at_any s t f l p 5 o i w hs ht hf)
  generalize atp s t f 5 o i = R at *
  go_enter Tryd.func53, Tryd.ntmps53
  go_wp2_with fail
  have B0 := (Below.refl w.heap.size w).alloc (Nat.le_refl _) (.cells #[.int .i64 s, .int .i64 t, .int .i64 f, .int .i64 l, .int .i64 p] 44)
  refine (A.out _).mono ?_
  rintro e w1 ⟨rfl, hb1⟩
  go_wp2_with fail
  go_ret
  exact ⟨rfl, B0.trans (hb1.mono B0.size)⟩
set_option maxHeartbeats 400000 in
theorem lhaz_zero (o i : Int) (w : World) :
    Calls Tryd.prog 53 #[.agg #[.int .i64 0, .int .i64 0, .int .i64 0, .int .i64 0, .int .i64 0], .int .i64 o, .int .i64 i] w fun e w' => e = .returned (.int .i64 (-1)) ∧ Below w.heap.size w w' := by
  have A := hide (fun w => at_zero 5 o i w)
  go_enter Tryd.func53, Tryd.ntmps53
  go_wp2_with fail
  have B0 := (Below.refl w.heap.size w).alloc (Nat.le_refl _) (.cells #[.int .i64 0, .int .i64 0, .int .i64 0, .int .i64 0, .int .i64 0] 44)
  refine (A.out _).mono ?_
  rintro e w1 ⟨rfl, hb1⟩
  go_wp2_with fail
  go_ret
  exact ⟨rfl, B0.trans (hb1.mono B0.size)⟩
set_option maxHeartbeats 400000 in
theorem llnk_any (s t f l p o  : Int) (w : World) (hs : 1 ≤ s ∧ s ≤ 1000) (ht : 1 ≤ t ∧ t ≤ 64) (hf : 4 ≤ f ∧ f ≤ 64) :
    Calls Tryd.prog 82 #[.agg #[.int .i64 s, .int .i64 t, .int .i64 f, .int .i64 l, .int .i64 p], .int .i64 o] w fun e w' => e = .returned (.int .i64 (atp s t f 8 o 0)) ∧ Below w.heap.size w w' := by
  have A := hide (fun w => at_any s t f l p 8 o 0 w hs ht hf)
  generalize atp s t f 8 o 0 = R at *
  go_enter Tryd.func82, Tryd.ntmps82
  go_wp2_with fail
  have B0 := (Below.refl w.heap.size w).alloc (Nat.le_refl _) (.cells #[.int .i64 s, .int .i64 t, .int .i64 f, .int .i64 l, .int .i64 p] 44)
  refine (A.out _).mono ?_
  rintro e w1 ⟨rfl, hb1⟩
  go_wp2_with fail
  go_ret
  exact ⟨rfl, B0.trans (hb1.mono B0.size)⟩
set_option maxHeartbeats 400000 in
theorem llnk_zero (o  : Int) (w : World) :
    Calls Tryd.prog 82 #[.agg #[.int .i64 0, .int .i64 0, .int .i64 0, .int .i64 0, .int .i64 0], .int .i64 o] w fun e w' => e = .returned (.int .i64 (-1)) ∧ Below w.heap.size w w' := by
  have A := hide (fun w => at_zero 8 o 0 w)
  go_enter Tryd.func82, Tryd.ntmps82
  go_wp2_with fail
  have B0 := (Below.refl w.heap.size w).alloc (Nat.le_refl _) (.cells #[.int .i64 0, .int .i64 0, .int .i64 0, .int .i64 0, .int .i64 0] 44)
  refine (A.out _).mono ?_
  rintro e w1 ⟨rfl, hb1⟩
  go_wp2_with fail
  go_ret
  exact ⟨rfl, B0.trans (hb1.mono B0.size)⟩

theorem atp4 {s t f o : Int} (h : 0 ≤ o ∧ o < t) : atp s t f 4 o 0 = 3 + o := by
  unfold atp
  rw [if_neg (by omega), if_pos (by omega)]
theorem atp4_no {s t f o : Int} (h : o < 0 ∨ t ≤ o) : atp s t f 4 o 0 = -1 := by
  unfold atp
  rw [if_neg (by omega), if_neg (by omega), if_neg (by omega)]
  unfold nod
  rw [if_pos (by omega)]
theorem atp5 {s t f o i : Int} (h : 0 ≤ o ∧ o < t) (hi : 0 ≤ i ∧ i < 2) : atp s t f 5 o i = 3 + t + 2 * o + i := by
  unfold atp
  rw [if_neg (by omega), if_neg (by omega), if_pos (by omega)]
theorem atp8 {s t f o : Int} (h : 0 ≤ o ∧ o ≤ s) : atp s t f 8 o 0 = 3 + 3 * t + o * (3 + 2 * f) + 2 := by
  unfold atp
  rw [if_neg (by omega), if_neg (by omega), if_neg (by omega)]
  unfold nod
  rw [if_neg (by unfold nodMany; simp; omega)]
  simp [nodAt]
theorem atp_first {s t f k : Int} (h : 1 ≤ k ∧ k ≤ 3) : atp s t f k 0 0 = k - 1 := by
  unfold atp
  rw [if_pos (by omega)]
end Go.Proofs.YtokcbipmocpllaaDoor

/-
  Package sweep: a copy of its lists; its beginning.
-/
namespace Go.Proofs.YtokcbipmocpllaaDoor
open Go.RowKit

/-- v is a slice of these records, in a block from lo on. -/
def OwnR (w : World) (lo : Nat) (v : Value) (n : Nat) (l : List (Int × Int)) : Prop := w.ownsRow lo 31 2 v n (rec2 l)
theorem infoRecs : (Tryd.prog.info? 31).map (fun i => (i.zero, i.size, i.bytes)) = some (some (.agg #[.int .u64 0, .int .u64 0]), 2, 16) := by kernel_rfl
theorem rec2_one (l : List (Int × Int)) : ∀ u ∈ rec2 l, u.oneCell' = true := by
  intro u hu
  unfold rec2 at hu
  rw [List.mem_flatMap] at hu
  obtain ⟨r, _, hr⟩ := hu
  simp only [List.mem_cons, List.not_mem_nil, or_false] at hr
  rcases hr with rfl | rfl <;> rfl
set_option maxRecDepth 100000 in
set_option maxHeartbeats 1000000 in
theorem clonr_any (A : Option Addr) (n c : Nat) (l : List (Int × Int)) (w : World) (hn : n ≤ 1000) (hr : Reads w w.heap.size 2 A n (rec2 l)) :
    Calls Tryd.prog 58 #[.slice A n c] w fun e w' => (∃ A1 c1, e = .returned (.slice A1 n c1) ∧ OwnR w' w.heap.size (.slice A1 n c1) n l) ∧ Below w.heap.size w w' := by
  obtain ⟨i0, hi0, hz0, hs0, hb0⟩ := info_parts infoRecs
  have q22 : ∀ (w : World) (a : Option Addr) (n c n' c' : Nat), (binOp .eql 22 (.slice a n c) (.slice none n' c')).run Tryd.prog w = .ok (.bool a.isNone) w := fun w a n c n' c' => Lib.run_eql_slice_nil w _ _ a n c n' c' Tryd.underlying22
  rcases A with _ | a
  · have hn0 : n = 0 := by
      rcases Nat.eq_zero_or_pos n with h | h
      · exact h
      · obtain ⟨ad, h, _⟩ := hr.2 h
        cases h
    subst hn0
    have hl : l = [] := List.eq_nil_of_length_eq_zero (by have := hr.lenPair; omega)
    subst hl
    go_enter Tryd.func58, Tryd.ntmps58
    go_wp2_with fail
    go_ret
    exact ⟨⟨_, _, rfl, World.ownsRow_nil _ _ _ _⟩, Below.refl _ _⟩
  · go_enter Tryd.func58, Tryd.ntmps58
    have ho : (w.alloc (.cells #[] 31)).ownsRow w.heap.size 31 2 (.slice (some ⟨w.heap.size, 0, none⟩) 0 0) 0 [] := World.ownsRow_made w #[] 0 (Nat.le_refl _) (Nat.zero_le _) rfl
    have hr1 := hr.alloc (Nat.le_refl _) (.cells #[] 31)
    go_wp2_with (at_builtin; refine wpList_append_any _ rfl (.tmp 5) (.tmp 6) _ rfl w.heap.size 31 i0 _ 2 16 Tryd.underlying22 hi0 hz0 hs0 hb0 rfl (by omega) _ 0 [] rfl ho w.heap.size (some a) n c (rec2 l) rfl hr1 (rec2_one l) (by unfold maxLen; omega) (by omega) (by simp) ?_; intro v3 w3 hown3 hg3 hat3)
    obtain ⟨A3, c3, rfl, _⟩ := own_reads hown3
    go_ret
    exact ⟨⟨A3, c3, by rw [Nat.zero_add]; rfl, by unfold OwnR; simpa using hown3⟩, below_appended ((Below.refl _ _).alloc (Nat.le_refl _) _) ho hg3 (Nat.le_refl _) (by simp)⟩
set_option maxRecDepth 100000 in
set_option maxHeartbeats 1000000 in
theorem copied_any (A : Option Addr) (n c : Nat) (l : List (Int × Int)) (v : Value) (ks : List Int) (w : World) (hn : n ≤ 1000) (hk : ks.length ≤ 1000) (hr : Reads w w.heap.size 2 A n (rec2 l)) (hs : Sl w w.heap.size v ks) :
    Calls Tryd.prog 40 #[.agg #[.slice A n c, v]] w fun e w' => (∃ A1 c1 u, e = .returned (.agg #[.slice A1 n c1, u]) ∧ OwnR w' w.heap.size (.slice A1 n c1) n l ∧ Own w' w.heap.size u ks) ∧ Below w.heap.size w w' := by
  obtain ⟨A2, c2, rfl, q1, q2, q3⟩ := hs
  have HS := hide (show Sl w w.heap.size (.slice A2 ks.length c2) ks from ⟨A2, c2, rfl, q1, q2, q3⟩)
  have C1 := hide (fun w2 (h : Below w.heap.size w w2) => clonr_any A n c l w2 hn ((hr.below h).more h.size))
  have C2 := hide (fun w2 (h : Below w.heap.size w w2) => clone_any (.slice A2 ks.length c2) ks w2 (by omega) ((HS.out.below h).more h.size))
  have B0 := ((Below.refl w.heap.size w).alloc (Nat.le_refl _) (.cells #[.slice A n c, .slice A2 ks.length c2] 25)).alloc (by simp only [World.size_alloc]; omega) (.cells #[.slice none 0 0, .slice none 0 0] 25)
  have bx := (Blk.new w 25 #[.slice A n c, .slice A2 ks.length c2]).alloc (.cells #[.slice none 0 0, .slice none 0 0] 25)
  have bo := Blk.new (w.alloc (.cells #[.slice A n c, .slice A2 ks.length c2] 25)) 25 #[.slice none 0 0, .slice none 0 0]
  simp only [World.size_alloc] at bo
  clear q1 q2 q3 hn hk hr
  go_enter Tryd.func40, Tryd.ntmps40
  go_wp2_with fail
  generalize (w.alloc (.cells #[.slice A n c, .slice A2 ks.length c2] 25)).alloc (.cells #[.slice none 0 0, .slice none 0 0] 25) = w0 at *
  refine wp_region_heldZ [7] (fun w' => w'.cell? ⟨w.heap.size, 0, none⟩ = some (.slice A n c) ∧ w'.cell? ⟨w.heap.size, 1, none⟩ = some (.slice A2 ks.length c2)) (by kernel_rfl) (by exact ⟨bx.cell 0, bx.cell 1⟩) (fun hHeld => ?_)
  replace bx := bx.drew
  replace bo := bo.drew
  replace B0 := B0.drew
  generalize w0.drew = wd at *
  refine' wpAnyZ_takeA (i := 0) (v := ?_) (opAt rfl) (by kernel_rfl) (by kernel_rfl) (by kernel_rfl) (by kernel_rfl) (fun _ _ _ h => h) (by assumption) (by rfl) (fun w hSw => ?_) ?_
  rotate_left
  · (try dsimp only at hSw); go_simp; (try with_reducible rfl)
  try simp only [Act.put, List.setIfInBounds_toArray, List.set_cons_zero, List.set_cons_succ]
  refine' wpAnyZ_takeA (i := 1) (v := ?_) (opAt rfl) (by kernel_rfl) (by kernel_rfl) (by kernel_rfl) (by kernel_rfl) (fun _ _ _ h => h) (by assumption) (by rfl) (fun w hSw => ?_) ?_
  rotate_left
  · (try dsimp only at hSw); go_simp; (try with_reducible rfl)
  try simp only [Act.put, List.setIfInBounds_toArray, List.set_cons_zero, List.set_cons_succ]
  refine' wpAnyZ_takeA (i := 3) (v := ?_) (opAt rfl) (by kernel_rfl) (by kernel_rfl) (by kernel_rfl) (by kernel_rfl) (fun _ _ _ h => h) (by assumption) (by rfl) (fun w hSw => ?_) ?_
  rotate_left
  · (try dsimp only at hSw); go_simp; (try with_reducible rfl)
  try simp only [Act.put, List.setIfInBounds_toArray, List.set_cons_zero, List.set_cons_succ]
  refine' wpAnyZ_takeA (i := 4) (v := ?_) (opAt rfl) (by kernel_rfl) (by kernel_rfl) (by kernel_rfl) (by kernel_rfl) (fun _ _ _ h => h) (by assumption) (by rfl) (fun w hSw => ?_) ?_
  rotate_left
  · (try dsimp only at hSw); go_simp; (try with_reducible rfl)
  try simp only [Act.put, List.setIfInBounds_toArray, List.set_cons_zero, List.set_cons_succ]
  refine wpAnyZ_ready (rs := [2]) (by kernel_rfl) (by simp) ?_
  refine AllReadyZ.cons (opAt rfl) (fun K hK => ?_) ?_
  · skip
    go_simp
    refine (C1.out _ B0).mono ?_
    rintro e w1 ⟨⟨A3, c3, rfl, o3⟩, hb1⟩
    have o3 := own_mono o3 (show w.heap.size + 2 ≤ _ by have := bo.lt; omega)
    replace bx := bx.below hb1 bx.lt
    replace bo := bo.below hb1 bo.lt
    replace B0 := B0.trans (hb1.mono B0.size)
    clear hb1
    try go_wp2_with fail
    refine hK.out _ _ (by exact ⟨bx.cell 0, bx.cell 1⟩) (fun hHeld => ?_)
    clear hK K
    try simp only [Act.put, List.setIfInBounds_toArray, List.set_cons_zero, List.set_cons_succ]
    refine wpAnyZ_ready (rs := [5]) (by kernel_rfl) (by simp) ?_
    refine AllReadyZ.cons (opAt rfl) (fun K hK => ?_) ?_
    · skip
      go_simp
      refine (C2.out _ B0).mono ?_
      rintro e w2 ⟨⟨u4, rfl, o4⟩, hb1⟩
      have o4 := own_mono o4 (show w.heap.size + 2 ≤ _ by have := bo.lt; omega)
      replace o3 := own_below o3 hb1
      replace bx := bx.below hb1 bx.lt
      replace bo := bo.below hb1 bo.lt
      replace B0 := B0.trans (hb1.mono B0.size)
      obtain ⟨A4, c4, rfl⟩ := Own.val o4
      clear hb1
      try go_wp2_with fail
      refine hK.out _ _ (by exact ⟨bx.cell 0, bx.cell 1⟩) (fun hHeld => ?_)
      clear hK K
      try simp only [Act.put, List.setIfInBounds_toArray, List.set_cons_zero, List.set_cons_succ]
      refine' wpAnyZ_takeA (i := 6) (v := ?_) (opAt rfl) (by kernel_rfl) (by kernel_rfl) (by kernel_rfl) (by kernel_rfl) (fun _ _ _ h => h) (by assumption) (by rfl) (fun w hSw => ?_) ?_
      rotate_left
      · (try dsimp only at hSw); go_simp; (try with_reducible rfl)
      try simp only [Act.put, List.setIfInBounds_toArray, List.set_cons_zero, List.set_cons_succ]
      refine wpAnyZ_ready (rs := [7]) (by kernel_rfl) (by simp) ?_
      refine AllReadyZ.last (opAt rfl) (by kernel_rfl) (fun K hK => ?_) ?_
      · skip
        have mo := fun i => bo.cell i
        have zo := fun i => bo.frozen i
        go_simp
        refine hK.out _ _ ?_
        clear hK K
        try simp only [Act.put, List.setIfInBounds_toArray, List.set_cons_zero, List.set_cons_succ]
        refine wpAnyZ_done (by kernel_rfl) ?_ _
        clear mo zo
        replace o3 := own_setCell_far (own_setCell_far o3 (p := ⟨w.heap.size + 1, 0, none⟩) (show w.heap.size + 1 < w.heap.size + 2 by omega) (.slice A3 n c3)) (p := ⟨w.heap.size + 1, 1, none⟩) (show w.heap.size + 1 < w.heap.size + 2 by omega) (.slice A4 ks.length c4)
        replace o4 := own_setCell_far (own_setCell_far o4 (p := ⟨w.heap.size + 1, 0, none⟩) (show w.heap.size + 1 < w.heap.size + 2 by omega) (.slice A3 n c3)) (p := ⟨w.heap.size + 1, 1, none⟩) (show w.heap.size + 1 < w.heap.size + 2 by omega) (.slice A4 ks.length c4)
        replace bo := (bo.set_ 0 (.slice A3 n c3)).set_ 1 (.slice A4 ks.length c4)
        replace B0 := (B0.setCell (p := ⟨w.heap.size + 1, 0, none⟩) (show w.heap.size ≤ w.heap.size + 1 by omega) (.slice A3 n c3)).setCell (p := ⟨w.heap.size + 1, 1, none⟩) (show w.heap.size ≤ w.heap.size + 1 by omega) (.slice A4 ks.length c4)
        generalize (w2.setCell ⟨w.heap.size + 1, 0, none⟩ (.slice A3 n c3)).setCell ⟨w.heap.size + 1, 1, none⟩ (.slice A4 ks.length c4) = w9 at *
        have mo := fun i => bo.cell i
        go_wp2_with fail
        refine bodyPost_ret (v := .agg #[.slice A3 n c3, .slice A4 ks.length c4]) (by simp [results, Tryd.results40, go_sem, mo]) rfl ⟨⟨A3, c3, _, rfl, own_mono o3 (by omega), own_mono o4 (by omega)⟩, B0⟩
      exact AllReadyZ.nil
    exact AllReadyZ.nil
  exact AllReadyZ.nil
end Go.Proofs.YtokcbipmocpllaaDoor

/-
  A store of many cells into one block.
-/
namespace Go.Proofs.YtokcbipmocpllaaDoor
open Go.RowKit

/-- So many cells, one behind the other. -/
def putL (w : World) (g : Nat) : Nat → List Value → World
  | _, [] => w
  | k, v :: vs => putL (w.setCell ⟨g, k, none⟩ v) g (k + 1) vs
def setL (cs : Array Value) : Nat → List Value → Array Value
  | _, [] => cs
  | k, v :: vs => setL (cs.setIfInBounds k v) (k + 1) vs
theorem Blk.putL {g : Nat} {T : TypeId} : ∀ (vs : List Value) (w : World) (cs : Array Value) (k : Nat), Blk w g T cs → Blk (putL w g k vs) g T (setL cs k vs)
  | [], _, _, _, h => h
  | v :: vs, _, _, k, h => Blk.putL vs _ _ (k + 1) (h.set_ k v)
theorem Blk.offL {g x : Nat} {T : TypeId} {cs : Array Value} (hne : x ≠ g) : ∀ (vs : List Value) (w : World) (k : Nat), Blk w x T cs → Blk (Proofs.YtokcbipmocpllaaDoor.putL w g k vs) x T cs
  | [], _, _, h => h
  | v :: vs, _, k, h => Blk.offL hne vs _ (k + 1) (h.far (p := ⟨g, k, none⟩) hne v)
theorem Below.putL {g L : Nat} {w0 : World} (hg : L ≤ g) : ∀ (vs : List Value) (w : World) (k : Nat), Below L w0 w → Below L w0 (Proofs.YtokcbipmocpllaaDoor.putL w g k vs)
  | [], _, _, h => h
  | v :: vs, _, k, h => Below.putL hg vs _ (k + 1) (h.setCell (p := ⟨g, k, none⟩) hg v)
theorem own_putL {g lo : Nat} {e : TypeId} {s n : Nat} {xs : List Value} {u : Value} (hg : g < lo) : ∀ (vs : List Value) (w : World) (k : Nat), w.ownsRow lo e s u n xs → (putL w g k vs).ownsRow lo e s u n xs
  | [], _, _, h => h
  | v :: vs, _, k, h => own_putL hg vs _ (k + 1) (own_setCell_far h (p := ⟨g, k, none⟩) hg v)
theorem own_set1 {w : World} {base n g j : Nat} {e T : TypeId} {s : Nat} {v : Value} {xs : List Value} {cs : Array Value} (h : w.ownsRow base e s v n xs) (hb : Blk w g T cs) (hne : e ≠ T) (u : Value) : (w.setCell ⟨g, j, none⟩ u).ownsRow base e s v n xs :=
  h.kept (row := some g) ⟨rfl, rfl, rfl, by rw [World.size_setCell]; exact Nat.le_refl _, fun k _ hk => Below.heap_setCell w ⟨g, j, none⟩ u k (fun e => hk (by rw [e]))⟩ (.inr (own_blk_ne h hb hne))
theorem own_putT {g lo : Nat} {e T : TypeId} {s n : Nat} {xs : List Value} {u : Value} (hne : e ≠ T) : ∀ (vs : List Value) (w : World) (cs : Array Value) (k : Nat), Blk w g T cs → w.ownsRow lo e s u n xs → (putL w g k vs).ownsRow lo e s u n xs
  | [], _, _, _, _, h => h
  | v :: vs, _, _, k, hb, h => own_putT hne vs _ _ (k + 1) (hb.set_ k v) (own_set1 h hb hne v)
theorem size_putL {g : Nat} : ∀ (vs : List Value) (w : World) (k : Nat), (putL w g k vs).heap.size = w.heap.size
  | [], _, _ => rfl
  | v :: vs, w, k => by
    show (putL (w.setCell ⟨g, k, none⟩ v) g (k + 1) vs).heap.size = w.heap.size
    rw [size_putL vs]
    exact World.size_setCell _ _ _
/-- The kit's own name for such a store. -/
theorem putL_eq {g : Nat} : ∀ (vs : List Value) (w : World) (k : Nat), w.setCells g k vs = putL w g k vs
  | [], _, _ => rfl
  | v :: vs, w, k => by
    show (w.setCell ⟨g, k, none⟩ v).setCells g (k + 1) vs = putL (w.setCell ⟨g, k, none⟩ v) g (k + 1) vs
    exact putL_eq vs _ _
theorem Blk.range {w : World} {g : Nat} {T : TypeId} {cs : Array Value} (h : Blk w g T cs) : w.rangeAt g 0 cs.toList := fun j v hv => by
  rw [Nat.zero_add, h.cell j]
  simpa using hv
theorem Blk.there {w : World} {g n : Nat} {T : TypeId} {cs : Array Value} (h : Blk w g T cs) (hn : cs.size = n) : w.there g 0 n := fun j hj => by
  refine ⟨?_, ?_⟩
  · rw [Nat.zero_add, h.cell j]
    simp [hn, hj]
  · rw [Nat.zero_add]
    exact h.frozen j
end Go.Proofs.YtokcbipmocpllaaDoor

/-
  A slice that reads as a list of cells, in a block of a type that is known; the laws by which it stays.
-/
namespace Go.Proofs.YtokcbipmocpllaaDoor
open Go.RowKit

/-- v is a slice of n elements of s cells each, these, in a block of the type e. -/
def Tr (w : World) (e : TypeId) (s : Nat) (v : Value) (n : Nat) (xs : List Value) : Prop :=
  ∃ A c, v = .slice A n c ∧ n ≤ c ∧ c ≤ 9223372036854775807 ∧ (A = none → n = 0 ∧ c = 0) ∧ Reads w w.heap.size s A n xs ∧ ∀ ad, A = some ad → ∃ cs cur, w.heap[ad.block]? = some (Obj.cells cs e cur)

theorem heap_lt {w : World} {g : Nat} {o : Obj} (h : w.heap[g]? = some o) : g < w.heap.size := by
  rcases Nat.lt_or_ge g w.heap.size with hlt | hge
  · exact hlt
  · rw [Array.getElem?_eq_none hge] at h; cases h

section
variable {w w' : World} {e : TypeId} {s n : Nat} {v : Value} {xs : List Value}
theorem Tr.keep (h : Tr w e s v n xs) (hz : w.heap.size ≤ w'.heap.size) (hk : ∀ (g : Nat) (cs : Array Value) cur, w.heap[g]? = some (Obj.cells cs e cur) → w'.heap[g]? = w.heap[g]?) : Tr w' e s v n xs := by
  obtain ⟨A, c, h1, h2, h3, h4, h5, h6⟩ := h
  refine ⟨A, c, h1, h2, h3, h4, ⟨h5.1, fun hn => ?_⟩, fun ad hA => ?_⟩
  · obtain ⟨ad, e1, hb, hc⟩ := h5.2 hn
    obtain ⟨cs, cur, hh⟩ := h6 ad e1
    refine ⟨ad, e1, by omega, fun j u hu => ?_⟩
    rw [← hc j u hu]
    exact World.cell?_of_block (by rw [block_of_add]; exact hk _ _ _ hh)
  · obtain ⟨cs, cur, hh⟩ := h6 ad hA
    exact ⟨cs, cur, (hk _ _ _ hh).trans hh⟩
theorem Tr.below {B : Nat} (h : Tr w e s v n xs) (hB : w.heap.size ≤ B) (hb : Below B w w') : Tr w' e s v n xs :=
  h.keep hb.size fun g _ _ hh => hb.block g (Nat.lt_of_lt_of_le (heap_lt hh) hB)
theorem Tr.drew (h : Tr w e s v n xs) : Tr w.drew e s v n xs := h.keep (Nat.le_refl _) fun _ _ _ _ => rfl
theorem Tr.drewN (h : Tr w e s v n xs) (k : Nat) : Tr (w.drewN k) e s v n xs := h.keep (Nat.le_refl _) fun _ _ _ _ => rfl
theorem Tr.alloc (h : Tr w e s v n xs) (o : Obj) : Tr (w.alloc o) e s v n xs :=
  h.keep (by simp) fun g _ _ hh => Below.heap_alloc w o g (heap_lt hh)
theorem Tr.set_ {g : Nat} {T : TypeId} {cs : Array Value} (h : Tr w e s v n xs) (hb : Blk w g T cs) (hne : e ≠ T) (i : Nat) (u : Value) : Tr (w.setCell ⟨g, i, none⟩ u) e s v n xs :=
  h.keep (by rw [World.size_setCell]; exact Nat.le_refl _) fun g' cs' cur hh => Below.heap_setCell w ⟨g, i, none⟩ u g' (fun he => by
    subst he
    unfold Blk at hb
    rw [hb] at hh
    injection hh with hh
    injection hh with _ ht
    exact hne ht.symm)
theorem Tr.putL {g : Nat} {T : TypeId} {cs : Array Value} (hne : e ≠ T) (vs : List Value) (k : Nat) (hb : Blk w g T cs) (h : Tr w e s v n xs) : Tr (Proofs.YtokcbipmocpllaaDoor.putL w g k vs) e s v n xs := by
  induction vs generalizing w cs k with
  | nil => exact h
  | cons u us ih => exact ih (k + 1) (hb.set_ k u) (h.set_ hb hne k u)
theorem Tr.grown {row : Option Nat} (h : Tr w e s v n xs) (hg : w.grownBy w' row) (hr : ∀ g, row = some g → ∀ cs cur, w.heap[g]? ≠ some (Obj.cells cs e cur)) : Tr w' e s v n xs :=
  h.keep hg.size fun g cs cur hh => hg.block g (heap_lt hh) (fun he => hr g he.symm cs cur hh)
theorem Tr.grown_none (h : Tr w e s v n xs) (hg : w.grownBy w' none) : Tr w' e s v n xs := h.grown hg (fun _ he => by cases he)
theorem Tr.appended {base m : Nat} {e2 : TypeId} {s2 : Nat} {u : Value} {ys : List Value} (h : Tr w e s v n xs) (ho : w.ownsRow base e2 s2 u m ys) (hne : e2 ≠ e) (hg : w.grownBy w' u.ownBlock) : Tr w' e s v n xs :=
  h.grown hg (fun g he cs cur hh => by
    rcases ho.2 with ⟨rfl, _⟩ | ⟨g', cap, cur', rfl, _, hh', _⟩
    · simp [Value.ownBlock] at he
    · have : g' = g := by simpa [Value.ownBlock] using he
      subst this
      rw [hh'] at hh
      injection hh with hh
      injection hh with _ ht
      exact hne ht)
theorem Tr.of_own {base : Nat} (h : w.ownsRow base e s v n xs) : Tr w e s v n xs := by
  have hz : ∀ {m cap : Nat}, m ≤ maxLen → m ≤ 9223372036854775807 := fun h => by unfold maxLen at h; omega
  rcases h.2 with ⟨rfl, rfl⟩ | ⟨g, cap, cur, rfl, hb, hh, hn, hm, hs, ht⟩
  · exact ⟨none, 0, rfl, Nat.le_refl _, by omega, fun _ => ⟨rfl, rfl⟩, Reads.of_own h, fun _ h => by cases h⟩
  · exact ⟨_, cap, rfl, hn, hz (m := cap) (cap := cap) hm, fun h => (by cases h), Reads.of_own h, fun ad ha => by injection ha with ha; subst ha; exact ⟨_, _, hh⟩⟩
theorem Tr.nil (w : World) (e : TypeId) (s : Nat) : Tr w e s (.slice none 0 0) 0 [] := Tr.of_own (World.ownsRow_nil w 0 e s)
theorem Tr.val (h : Tr w e s v n xs) : ∃ A c, v = .slice A n c := by obtain ⟨A, c, h, _⟩ := h; exact ⟨A, c, h⟩
theorem Tr.reads {A : Option Addr} {c : Nat} (h : Tr w e s (.slice A n c) n xs) : Reads w w.heap.size s A n xs := by
  obtain ⟨A', c', he, _, _, _, hr, _⟩ := h
  injection he with he _ _
  subst he
  exact hr
theorem Tr.cap {A : Option Addr} {c : Nat} (h : Tr w e s (.slice A n c) n xs) : n ≤ c ∧ c ≤ 9223372036854775807 ∧ (A = none → n = 0 ∧ c = 0) := by
  obtain ⟨A', c', he, h1, h2, h3, _⟩ := h
  injection he with he _ hc
  subst he
  subst hc
  exact ⟨h1, h2, h3⟩
theorem Tr.len (h : Tr w e s v n xs) : xs.length = n * s := by obtain ⟨_, _, _, _, _, _, hr, _⟩ := h; exact hr.1
/-- The slice behind the first k elements. -/
theorem Tr.cut {A : Option Addr} {c k : Nat} (h : Tr w e s (.slice A n c) n xs) (hk : k ≤ n) : Tr w e s (.slice (if c = k then A else A.map (·.add (k * s))) (n - k) (c - k)) (n - k) (xs.drop (k * s)) := by
  obtain ⟨A', c', he, h1, h2, h3, hr, h6⟩ := h
  injection he with he _ hc
  subst he
  subst hc
  refine ⟨_, _, rfl, by omega, by omega, fun hA => ?_, hr.cut hk h1, fun ad hA => ?_⟩
  · have : A = none := by
      split at hA
      · exact hA
      · simpa using hA
    have := h3 this
    omega
  · rcases A with _ | a
    · split at hA <;> cases hA
    · obtain ⟨cs, cur, hh⟩ := h6 a rfl
      refine ⟨cs, cur, ?_⟩
      split at hA
      · injection hA with hA; subst hA; exact hh
      · injection hA with hA; subst hA; rw [block_of_add]; exact hh
/-- The first k elements. -/
theorem Tr.pre {A : Option Addr} {c k : Nat} (h : Tr w e s (.slice A n c) n xs) (hk : k ≤ n) : Tr w e s (.slice A k c) k (xs.take (k * s)) := by
  obtain ⟨A', c', he, h1, h2, h3, hr, h6⟩ := h
  injection he with he _ hc
  subst he
  subst hc
  have hks : k * s ≤ n * s := Nat.mul_le_mul_right _ hk
  refine ⟨A, c, rfl, by omega, by omega, fun h => by have := h3 h; omega, ⟨by rw [List.length_take, hr.1]; omega, fun h0 => ?_⟩, h6⟩
  obtain ⟨ad, e1, hb, hc⟩ := hr.2 (by omega)
  refine ⟨ad, e1, hb, fun j u hu => hc j u ?_⟩
  rw [List.getElem?_take] at hu
  split at hu
  · exact hu
  · cases hu
/-- All elements, with whatever capacity. -/
theorem Tr.clip {A : Option Addr} {c c2 : Nat} (h : Tr w e s (.slice A n c) n xs) (h1 : n ≤ c2) (h2 : c2 ≤ c) : Tr w e s (.slice A n c2) n xs := by
  obtain ⟨A', c', he, q1, q2, h3, hr, h6⟩ := h
  injection he with he _ hc
  subst he
  subst hc
  exact ⟨A, c2, rfl, h1, by omega, fun h => by have := h3 h; omega, hr, h6⟩
theorem Tr.of_eq {xs' : List Value} (h : Tr w e s v n xs) (hx : xs = xs') : Tr w e s v n xs' := hx ▸ h
end
theorem Tr.sl {w : World} {e : TypeId} {v : Value} {n : Nat} {l : List Int} (h : Tr w e 1 v n (ints .u64 l)) : Sl w w.heap.size v l := by
  have hn : l.length = n := by have := h.len; rw [ints_len] at this; omega
  subst hn
  obtain ⟨A, c, h1, h2, h3, _, hr, _⟩ := h
  exact ⟨A, c, h1, h2, h3, hr⟩
end Go.Proofs.YtokcbipmocpllaaDoor

