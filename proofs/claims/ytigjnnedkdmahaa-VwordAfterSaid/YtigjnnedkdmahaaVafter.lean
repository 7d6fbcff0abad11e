/-
  The Go function VwordAfter.
-/
import Derived.Test.YtigjnnedkdmahaaVrefB
import Derived.Test.YtigjnnedkdmahaaPast
import Derived.Test.YtigjnnedkdmahaaWords
import Derived.Test.YtigjnnedkdmahaaOpen
namespace Go.Proofs.Ytigjnnedkdmahaa
open Go.RowKit
attribute [local go_sem] past_cell past_cell_add

def vturn (k x : Int) : Int := if k = 0 then vlock x else if k = 1 then vundo x else if k = 2 then vbump x else if k = 3 then vkill x else vrenew x
def vdig (a : Int) : Int := if a.tmod 5 < 0 then -(a.tmod 5) else a.tmod 5
theorem vdig_bound (a : Int) : 0 ≤ vdig a ∧ vdig a ≤ 4 := by
  have h1 : a.tmod 5 < 5 := Int.tmod_lt_of_pos a (by omega)
  have h2 : -5 < a.tmod 5 := by
    have h3 : (a.tmod 5).natAbs < 5 := by rw [Int.natAbs_tmod]; exact Nat.mod_lt _ (by decide)
    omega
  unfold vdig
  split <;> omega
theorem vturn_bound (k x : Int) : W64 (vturn k x) := by
  unfold vturn
  split
  · exact vpack_bound _ _ _ _
  split
  · exact vpack_bound _ _ _ _
  split
  · exact vpack_bound _ _ _ _
  split
  · exact vpack_bound _ _ _ _
  · exact vpack_bound _ _ _ _
theorem vcnt_turn_few {k : Int} (x : Int) (h : 0 ≤ k ∧ k < 2) : vcnt (vturn k x) = vcnt x := by
  have b := vcnt_bound x
  rcases (show k = 0 ∨ k = 1 by omega) with rfl | rfl
  · show vcnt (vlock x) = _
    unfold vlock
    rw [vcnt_pack]
    omega
  · show vcnt (vundo x) = _
    unfold vundo
    rw [vcnt_pack]
    omega
theorem vcnt_turn {k : Int} (x : Int) (h : 2 ≤ k) : vcnt (vturn k x) = (vcnt x + 1) % 274877906944 := by
  unfold vturn
  rw [if_neg (by omega), if_neg (by omega)]
  split
  · exact vcnt_pack _ _ _ _
  split
  · exact vcnt_pack _ _ _ _
  · exact vcnt_pack _ _ _ _
theorem vcnt_undo (x : Int) : vcnt (vundo x) = vcnt x := by
  have b := vcnt_bound x
  unfold vundo
  rw [vcnt_pack]
  omega

set_option maxHeartbeats 400000 in
theorem pturn_any (k x : Int) (w : World) (hk : 0 ≤ k ∧ k ≤ 4) (hx : W64 x) : Calls Try.prog 27 #[.int .i64 k, .int .u64 x] w fun e w' => e = .returned (.int .u64 (vturn k x)) ∧ Below w.heap.size w w' := by
  have L := hide (fun w => (vlock_any x w hx).mono fun _ _ => same_below)
  have U := hide (fun w => (vundo_any x w hx).mono fun _ _ => same_below)
  have Bm := hide (fun w => vbump_any x w hx)
  have Kl := hide (fun w => vkill_any x w hx)
  have Rn := hide (fun w => vrenew_any x w hx)
  rcases (show k = 0 ∨ k = 1 ∨ k = 2 ∨ k = 3 ∨ k = 4 by omega) with rfl | rfl | rfl | rfl | rfl
  · rw [show vturn 0 x = vlock x from rfl]
    generalize vlock x = r at *
    go_enter Try.func27, Try.ntmps27
    go_wp2_with fail
    refine (L.out _).mono ?_
    rintro e w1 ⟨rfl, hb1⟩
    go_wp2_with fail
    go_ret
    exact ⟨rfl, hb1⟩
  · rw [show vturn 1 x = vundo x from rfl]
    generalize vundo x = r at *
    go_enter Try.func27, Try.ntmps27
    go_wp2_with fail
    refine (U.out _).mono ?_
    rintro e w1 ⟨rfl, hb1⟩
    go_wp2_with fail
    go_ret
    exact ⟨rfl, hb1⟩
  · rw [show vturn 2 x = vbump x from rfl]
    generalize vbump x = r at *
    go_enter Try.func27, Try.ntmps27
    go_wp2_with fail
    refine (Bm.out _).mono ?_
    rintro e w1 ⟨rfl, hb1⟩
    go_wp2_with fail
    go_ret
    exact ⟨rfl, hb1⟩
  · rw [show vturn 3 x = vkill x from rfl]
    generalize vkill x = r at *
    go_enter Try.func27, Try.ntmps27
    go_wp2_with fail
    refine (Kl.out _).mono ?_
    rintro e w1 ⟨rfl, hb1⟩
    go_wp2_with fail
    go_ret
    exact ⟨rfl, hb1⟩
  · rw [show vturn 4 x = vrenew x from rfl]
    generalize vrenew x = r at *
    go_enter Try.func27, Try.ntmps27
    go_wp2_with fail
    refine (Rn.out _).mono ?_
    rintro e w1 ⟨rfl, hb1⟩
    go_wp2_with fail
    go_ret
    exact ⟨rfl, hb1⟩
set_option maxHeartbeats 400000 in
theorem rturn_any (k x : Int) (w : World) (hk : 0 ≤ k ∧ k ≤ 4) (hx : W64 x) : Calls Try.prog 26 #[.int .i64 k, .int .u64 x] w fun e w' => e = .returned (.int .u64 (vturn k x)) ∧ Below w.heap.size w w' := by
  have L := hide (fun w => (rlock_any x w hx).mono fun _ _ => id)
  have U := hide (fun w => (rundo_any x w hx).mono fun _ _ => id)
  have Bm := hide (fun w => rbump_any x w hx)
  have Kl := hide (fun w => rkill_any x w hx)
  have Rn := hide (fun w => rrenew_any x w hx)
  rcases (show k = 0 ∨ k = 1 ∨ k = 2 ∨ k = 3 ∨ k = 4 by omega) with rfl | rfl | rfl | rfl | rfl
  · rw [show vturn 0 x = vlock x from rfl]
    generalize vlock x = r at *
    go_enter Try.func26, Try.ntmps26
    go_wp2_with fail
    refine (L.out _).mono ?_
    rintro e w1 ⟨rfl, hb1⟩
    go_wp2_with fail
    go_ret
    exact ⟨rfl, hb1⟩
  · rw [show vturn 1 x = vundo x from rfl]
    generalize vundo x = r at *
    go_enter Try.func26, Try.ntmps26
    go_wp2_with fail
    refine (U.out _).mono ?_
    rintro e w1 ⟨rfl, hb1⟩
    go_wp2_with fail
    go_ret
    exact ⟨rfl, hb1⟩
  · rw [show vturn 2 x = vbump x from rfl]
    generalize vbump x = r at *
    go_enter Try.func26, Try.ntmps26
    go_wp2_with fail
    refine (Bm.out _).mono ?_
    rintro e w1 ⟨rfl, hb1⟩
    go_wp2_with fail
    go_ret
    exact ⟨rfl, hb1⟩
  · rw [show vturn 3 x = vkill x from rfl]
    generalize vkill x = r at *
    go_enter Try.func26, Try.ntmps26
    go_wp2_with fail
    refine (Kl.out _).mono ?_
    rintro e w1 ⟨rfl, hb1⟩
    go_wp2_with fail
    go_ret
    exact ⟨rfl, hb1⟩
  · rw [show vturn 4 x = vrenew x from rfl]
    generalize vrenew x = r at *
    go_enter Try.func26, Try.ntmps26
    go_wp2_with fail
    refine (Rn.out _).mono ?_
    rintro e w1 ⟨rfl, hb1⟩
    go_wp2_with fail
    go_ret
    exact ⟨rfl, hb1⟩

def Was (c0 : Int) (xs : List Int) (y : Int) : Prop := vcnt y = (c0 + xs.length) % 274877906944 ∧ ∀ (j : Nat) (h : j < xs.length), vcnt xs[j] = (c0 + j) % 274877906944
theorem Was.few {c0 y k : Int} {xs : List Int} (h : Was c0 xs y) (hk : 0 ≤ k ∧ k < 2) : Was c0 xs (vturn k y) := ⟨by rw [vcnt_turn_few y hk]; exact h.1, h.2⟩
theorem Was.more {c0 y k : Int} {xs : List Int} (h : Was c0 xs y) (hk : 2 ≤ k) : Was c0 (xs ++ [vundo y]) (vturn k y) := by
  refine ⟨by rw [vcnt_turn y hk, h.1, List.length_append, List.length_singleton]; push_cast; omega, fun j hj => ?_⟩
  rw [List.getElem_append]
  split
  · exact h.2 j _
  · simp only [List.length_append, List.length_singleton] at hj
    obtain rfl : j = xs.length := by omega
    simp only [List.getElem_singleton]
    rw [vcnt_undo, h.1]
theorem Was.differ {c0 y : Int} {xs : List Int} (h : Was c0 xs y) (hl : xs.length ≤ 60) (j : Nat) (hj : j < xs.length) : (vundo y == xs[j]) = false := by
  rw [beq_eq_false_iff_ne]
  intro e
  have h1 := h.2 j hj
  rw [← e, vcnt_undo, h.1] at h1
  omega

def VAIn (n : Nat) (c0 : Int) (w : World) (got was x i : Value) (wr : World) : Prop :=
  ∃ (k : Nat) (xs : List Int) (A1 : Option Addr) (n1 c1 : Nat) (y : Int), i = .int .i64 k ∧ k ≤ n ∧ got = .int .u64 y ∧ x = .int .u64 y ∧ was = .slice A1 n1 c1 ∧ n1 = xs.length ∧ W64 y ∧ n1 ≤ k ∧ Was c0 xs y ∧
    wr.ownsRow w.heap.size 22 1 (.slice A1 n1 c1) n1 (ints .u64 xs) ∧ Below w.heap.size w wr
theorem infoU64 : (Try.prog.info? 22).map (fun i => (i.zero, i.size, i.bytes)) = some (some (.int .u64 0), 1, 8) := by kernel_rfl

theorem reads_prefix' {w : World} {B n m : Nat} {A : Option Addr} {l : List Int} {κ : IntKind} (h : Reads w B 1 A n (ints κ l)) (hm : m ≤ n) : Reads w B 1 A m (ints κ (l.take m)) := by
  have hl := h.lenWord
  refine ⟨by rw [ints_len, List.length_take]; omega, fun h0 => ?_⟩
  obtain ⟨ad, e, hb, hc⟩ := h.2 (by omega)
  refine ⟨ad, e, hb, fun j u hu => hc j u ?_⟩
  unfold ints at *
  rw [List.map_take, List.getElem?_take] at hu
  split at hu
  · exact hu
  · cases hu
set_option maxHeartbeats 2000000 in
theorem VwordAfter_calls (x : Int) (A : Option Addr) (n c : Nat) (l0 : List Int) (w : World) (hx : W64 x) (hr0 : Reads w w.heap.size 1 A n (ints .i64 l0)) (hnc : n ≤ c) (hc : c ≤ 9223372036854775807) :
    Calls Try.prog 5 #[.int .u64 x, .slice A n c] w fun r w' => r = .returned (.bool true) ∧ Below w.heap.size w w' := by
  by_cases hbig : 60 < n
  · have hr := reads_prefix' hr0 (m := 60) (by omega)
    generalize l0.take 60 = l at *
    have hn : 60 ≤ 60 := Nat.le_refl _
    have hdec : decide ((60 : Int) < (n : Int)) = true := by simp; omega
    clear hr0
    have U := hide (fun (y : Int) (h : W64 y) w => vundo_any y w h)
    have rU := hide (fun (y : Int) (h : W64 y) w => rundo_any y w h)
    have P := hide (fun (k y : Int) (hk : 0 ≤ k ∧ k ≤ 4) (h : W64 y) w => pturn_any k y w hk h)
    have R := hide (fun (k y : Int) (hk : 0 ≤ k ∧ k ≤ 4) (h : W64 y) w => rturn_any k y w hk h)
    have Aw := hide vawake_any
    obtain ⟨i0, hi0, hz0, hs0, hb0⟩ := info_parts infoU64
    have Hx := hide hx
    clear hx
    go_enter Try.func5, Try.ntmps5
    go_wp2_with fail
    go_loopw [5, 6, 7, 8] (VAIn 60 (vcnt x) w) (fun _ _ _ i _ => 1000 - (intOf i).toNat)
    case atStart => exact ⟨0, [], none, 0, 0, x, rfl, by omega, rfl, rfl, rfl, rfl, Hx.out, by omega, ⟨by have := vcnt_bound x; simp; omega, fun j h => absurd h (by simp)⟩, World.ownsRow_nil _ _ _ _, Below.refl _ _⟩
    case round =>
      obtain ⟨k, xs, A1, n1, c1, y, rfl, hk, rfl, rfl, rfl, hn1, hy, hk1, hwas, hown, hb⟩ := hrel
      have HW := hide hwas
      have HN := hide hn1
      have HY := hide hy
      clear hwas hn1 hy
      by_cases hlt : k < 60
      · obtain ⟨a, ea, hkl, z1⟩ := (hr.below hb).word hlt
        subst ea
        obtain ⟨d1, d2⟩ := vdig_bound l[k]
        have D := hide (show vdig l[k] = if l[k].tmod 5 < 0 then -(l[k].tmod 5) else l[k].tmod 5 from rfl)
        have Few := HW.out.few (k := vdig l[k])
        have Mor := HW.out.more (k := vdig l[k])
        have P1 := hide (P.out (vdig l[k]) y ⟨d1, d2⟩ HY.out)
        have R1 := hide (R.out (vdig l[k]) y ⟨d1, d2⟩ HY.out)
        have U1 := hide (rU.out y HY.out)
        have Hb := hide (vturn_bound (vdig l[k]) y)
        clear P R U rU
        generalize vdig l[k] = q at *
        generalize l[k] = g at *
        generalize hT : g.tmod 5 = t at *
        have hzb := hb.size
        by_cases ht : t < 0
        · have e := D.out
          rw [if_pos ht] at e
          have hwq : wrap64 (-t) = q := by rw [e]; exact IntWalk.wrap64_in _ ⟨by omega, by omega⟩
          clear D e
          by_cases h2 : 2 ≤ q
          · skip
            have Wm := hide (Mor h2)
            clear Few Mor
            generalize vturn _ y = y2 at *
            go_wp2_with fail
            refine (U1.out _).mono ?_
            rintro e w2 ⟨rfl, hb2⟩
            have hz2 := hb2.size
            have hbw := hb.trans (hb2.mono hzb)
            have z2 := keepCell hb2 z1
            have ho1 := (own_below hown hb2).alloc (.cells #[.int .u64 (vundo y)] 22)
            generalize vundo y = u at *
            go_wp2_with (at_builtin; refine wpList_append_one rfl (.tmp 35) (.tmp 38) _ rfl w.heap.size 22 i0 _ 1 8 Try.underlying35 hi0 hz0 hs0 hb0 rfl (by omega) (by omega) (.slice A1 n1 c1) n1 _ rfl ho1 w2.heap.size #[.int .u64 u] rfl (Blk.new _ _ _) rfl rfl (by omega) (by simp; omega) ?_; intro A3 c3 w3 hown3 hg3 hat3)
            have hb3 := below_appended (hbw.alloc (by omega) _) ho1 hg3 (Nat.le_refl _) (by simp; omega)
            refine (R1.out _).mono ?_
            rintro e w4 ⟨rfl, hb4⟩
            go_wp2_with fail
            refine (P1.out _).mono ?_
            rintro e w5 ⟨rfl, hb5⟩
            have B4 := hb3.trans (hb4.mono hb3.size)
            have B5 := B4.trans (hb5.mono B4.size)
            go_wp2_with fail
            go_roundw
            case measure => simp [intOf]; omega
            case rel => exact ⟨k + 1, xs ++ [u], A3, n1 + 1, c3, y2, by go_num, by omega, rfl, rfl, rfl, by rw [HN.out, List.length_append]; rfl, Hb.out, by omega, Wm.out, by rw [ints_append]; exact own_below (own_below hown3 hb4) hb5, B5⟩
          · skip
            have Wf := hide (Few ⟨d1, by omega⟩)
            clear Few Mor
            generalize vturn _ y = y2 at *
            go_wp2_with fail
            refine (R1.out _).mono ?_
            rintro e w4 ⟨rfl, hb4⟩
            go_wp2_with fail
            refine (P1.out _).mono ?_
            rintro e w5 ⟨rfl, hb5⟩
            have B4 := hb.trans (hb4.mono hb.size)
            have B5 := B4.trans (hb5.mono B4.size)
            go_wp2_with fail
            go_roundw
            case measure => simp [intOf]; omega
            case rel => exact ⟨k + 1, xs, A1, n1, c1, y2, by go_num, by omega, rfl, rfl, rfl, HN.out, Hb.out, by omega, Wf.out, own_below (own_below hown hb4) hb5, B5⟩
        · have e := D.out
          rw [if_neg ht] at e
          subst e
          clear D
          by_cases h2 : 2 ≤ q
          · skip
            have Wm := hide (Mor h2)
            clear Few Mor
            generalize vturn _ y = y2 at *
            go_wp2_with fail
            refine (U1.out _).mono ?_
            rintro e w2 ⟨rfl, hb2⟩
            have hz2 := hb2.size
            have hbw := hb.trans (hb2.mono hzb)
            have z2 := keepCell hb2 z1
            have ho1 := (own_below hown hb2).alloc (.cells #[.int .u64 (vundo y)] 22)
            generalize vundo y = u at *
            go_wp2_with (at_builtin; refine wpList_append_one rfl (.tmp 35) (.tmp 38) _ rfl w.heap.size 22 i0 _ 1 8 Try.underlying35 hi0 hz0 hs0 hb0 rfl (by omega) (by omega) (.slice A1 n1 c1) n1 _ rfl ho1 w2.heap.size #[.int .u64 u] rfl (Blk.new _ _ _) rfl rfl (by omega) (by simp; omega) ?_; intro A3 c3 w3 hown3 hg3 hat3)
            have hb3 := below_appended (hbw.alloc (by omega) _) ho1 hg3 (Nat.le_refl _) (by simp; omega)
            refine (R1.out _).mono ?_
            rintro e w4 ⟨rfl, hb4⟩
            go_wp2_with fail
            refine (P1.out _).mono ?_
            rintro e w5 ⟨rfl, hb5⟩
            have B4 := hb3.trans (hb4.mono hb3.size)
            have B5 := B4.trans (hb5.mono B4.size)
            go_wp2_with fail
            go_roundw
            case measure => simp [intOf]; omega
            case rel => exact ⟨k + 1, xs ++ [u], A3, n1 + 1, c3, y2, by go_num, by omega, rfl, rfl, rfl, by rw [HN.out, List.length_append]; rfl, Hb.out, by omega, Wm.out, by rw [ints_append]; exact own_below (own_below hown3 hb4) hb5, B5⟩
          · skip
            have Wf := hide (Few ⟨d1, by omega⟩)
            clear Few Mor
            generalize vturn _ y = y2 at *
            go_wp2_with fail
            refine (R1.out _).mono ?_
            rintro e w4 ⟨rfl, hb4⟩
            go_wp2_with fail
            refine (P1.out _).mono ?_
            rintro e w5 ⟨rfl, hb5⟩
            have B4 := hb.trans (hb4.mono hb.size)
            have B5 := B4.trans (hb5.mono B4.size)
            go_wp2_with fail
            go_roundw
            case measure => simp [intOf]; omega
            case rel => exact ⟨k + 1, xs, A1, n1, c1, y2, by go_num, by omega, rfl, rfl, rfl, HN.out, Hb.out, by omega, Wf.out, own_below (own_below hown hb4) hb5, B5⟩
      · clear rU P R
        have U1 := hide (U.out y HY.out)
        have hdf := HW.out.differ (by have := HN.out; omega)
        have Hdf := hide hdf
        have hrx := Reads.of_own hown
        clear hdf U
        generalize vundo y = z at *
        have hn60 : n1 ≤ 60 := by omega
        go_wp2_with fail
        go_loopw [10] (fun i wz => ∃ j : Nat, j ≤ n1 ∧ i = .int .i64 j ∧ Below wr.heap.size wr wz) (fun i _ => 1000 - (intOf i).toNat)
        case atStart => exact ⟨0, by omega, rfl, Below.refl _ _⟩
        case round =>
          obtain ⟨j, hj, rfl, hbz⟩ := hrel
          have B1 := hb.trans (hbz.mono hb.size)
          by_cases hlt : j < n1
          · obtain ⟨a, ea, hkl, z1⟩ := (hrx.below hbz).word hlt
            subst ea
            have ab := World.block_lt_of_cell? _ _ z1
            rw [block_of_add] at ab
            have hne := Hdf.out j hkl
            generalize xs[j] = v at *
            generalize wr = wD at *
            go_wp2_with fail
            refine wp_region_past (by kernel_rfl) (by kernel_rfl) ?_
            repeat (quiet_step ((first | (go_at_call 16; exact calls_past_same (U1.out _)))))
            refine wpQuiet_nil ?_
            intro _ hw'
            obtain ⟨y, hw''⟩ := hw'
            subst hw''
            have hy := past_below wD y
            have bz2 := hbz.trans (hy.mono hbz.size)
            clear hy
            generalize past wD y = w9 at *
            go_wp2_with fail
            go_roundw
            case measure => simp [intOf]; omega
            case rel => exact ⟨j + 1, by omega, by go_num, bz2⟩
          · go_wp2_with fail
            refine (Aw.out _).mono ?_
            rintro e w9 ⟨rfl, hb9⟩
            go_wp2_with fail
            go_ret
            exact ⟨rfl, B1.trans (hb9.mono B1.size)⟩
  · have hr := hr0
    generalize l0 = l at *
    have hn : n ≤ 60 := by omega
    have hdec : decide ((60 : Int) < (n : Int)) = false := by simp; omega
    clear hr0 hbig
    have U := hide (fun (y : Int) (h : W64 y) w => vundo_any y w h)
    have rU := hide (fun (y : Int) (h : W64 y) w => rundo_any y w h)
    have P := hide (fun (k y : Int) (hk : 0 ≤ k ∧ k ≤ 4) (h : W64 y) w => pturn_any k y w hk h)
    have R := hide (fun (k y : Int) (hk : 0 ≤ k ∧ k ≤ 4) (h : W64 y) w => rturn_any k y w hk h)
    have Aw := hide vawake_any
    obtain ⟨i0, hi0, hz0, hs0, hb0⟩ := info_parts infoU64
    have Hx := hide hx
    clear hx
    go_enter Try.func5, Try.ntmps5
    go_wp2_with fail
    go_loopw [5, 6, 7, 8] (VAIn n (vcnt x) w) (fun _ _ _ i _ => 1000 - (intOf i).toNat)
    case atStart => exact ⟨0, [], none, 0, 0, x, rfl, by omega, rfl, rfl, rfl, rfl, Hx.out, by omega, ⟨by have := vcnt_bound x; simp; omega, fun j h => absurd h (by simp)⟩, World.ownsRow_nil _ _ _ _, Below.refl _ _⟩
    case round =>
      obtain ⟨k, xs, A1, n1, c1, y, rfl, hk, rfl, rfl, rfl, hn1, hy, hk1, hwas, hown, hb⟩ := hrel
      have HW := hide hwas
      have HN := hide hn1
      have HY := hide hy
      clear hwas hn1 hy
      by_cases hlt : k < n
      · obtain ⟨a, ea, hkl, z1⟩ := (hr.below hb).word hlt
        subst ea
        obtain ⟨d1, d2⟩ := vdig_bound l[k]
        have D := hide (show vdig l[k] = if l[k].tmod 5 < 0 then -(l[k].tmod 5) else l[k].tmod 5 from rfl)
        have Few := HW.out.few (k := vdig l[k])
        have Mor := HW.out.more (k := vdig l[k])
        have P1 := hide (P.out (vdig l[k]) y ⟨d1, d2⟩ HY.out)
        have R1 := hide (R.out (vdig l[k]) y ⟨d1, d2⟩ HY.out)
        have U1 := hide (rU.out y HY.out)
        have Hb := hide (vturn_bound (vdig l[k]) y)
        clear P R U rU
        generalize vdig l[k] = q at *
        generalize l[k] = g at *
        generalize hT : g.tmod 5 = t at *
        have hzb := hb.size
        by_cases ht : t < 0
        · have e := D.out
          rw [if_pos ht] at e
          have hwq : wrap64 (-t) = q := by rw [e]; exact IntWalk.wrap64_in _ ⟨by omega, by omega⟩
          clear D e
          by_cases h2 : 2 ≤ q
          · skip
            have Wm := hide (Mor h2)
            clear Few Mor
            generalize vturn _ y = y2 at *
            go_wp2_with fail
            refine (U1.out _).mono ?_
            rintro e w2 ⟨rfl, hb2⟩
            have hz2 := hb2.size
            have hbw := hb.trans (hb2.mono hzb)
            have z2 := keepCell hb2 z1
            have ho1 := (own_below hown hb2).alloc (.cells #[.int .u64 (vundo y)] 22)
            generalize vundo y = u at *
            go_wp2_with (at_builtin; refine wpList_append_one rfl (.tmp 35) (.tmp 38) _ rfl w.heap.size 22 i0 _ 1 8 Try.underlying35 hi0 hz0 hs0 hb0 rfl (by omega) (by omega) (.slice A1 n1 c1) n1 _ rfl ho1 w2.heap.size #[.int .u64 u] rfl (Blk.new _ _ _) rfl rfl (by omega) (by simp; omega) ?_; intro A3 c3 w3 hown3 hg3 hat3)
            have hb3 := below_appended (hbw.alloc (by omega) _) ho1 hg3 (Nat.le_refl _) (by simp; omega)
            refine (R1.out _).mono ?_
            rintro e w4 ⟨rfl, hb4⟩
            go_wp2_with fail
            refine (P1.out _).mono ?_
            rintro e w5 ⟨rfl, hb5⟩
            have B4 := hb3.trans (hb4.mono hb3.size)
            have B5 := B4.trans (hb5.mono B4.size)
            go_wp2_with fail
            go_roundw
            case measure => simp [intOf]; omega
            case rel => exact ⟨k + 1, xs ++ [u], A3, n1 + 1, c3, y2, by go_num, by omega, rfl, rfl, rfl, by rw [HN.out, List.length_append]; rfl, Hb.out, by omega, Wm.out, by rw [ints_append]; exact own_below (own_below hown3 hb4) hb5, B5⟩
          · skip
            have Wf := hide (Few ⟨d1, by omega⟩)
            clear Few Mor
            generalize vturn _ y = y2 at *
            go_wp2_with fail
            refine (R1.out _).mono ?_
            rintro e w4 ⟨rfl, hb4⟩
            go_wp2_with fail
            refine (P1.out _).mono ?_
            rintro e w5 ⟨rfl, hb5⟩
            have B4 := hb.trans (hb4.mono hb.size)
            have B5 := B4.trans (hb5.mono B4.size)
            go_wp2_with fail
            go_roundw
            case measure => simp [intOf]; omega
            case rel => exact ⟨k + 1, xs, A1, n1, c1, y2, by go_num, by omega, rfl, rfl, rfl, HN.out, Hb.out, by omega, Wf.out, own_below (own_below hown hb4) hb5, B5⟩
        · have e := D.out
          rw [if_neg ht] at e
          subst e
          clear D
          by_cases h2 : 2 ≤ q
          · skip
            have Wm := hide (Mor h2)
            clear Few Mor
            generalize vturn _ y = y2 at *
            go_wp2_with fail
            refine (U1.out _).mono ?_
            rintro e w2 ⟨rfl, hb2⟩
            have hz2 := hb2.size
            have hbw := hb.trans (hb2.mono hzb)
            have z2 := keepCell hb2 z1
            have ho1 := (own_below hown hb2).alloc (.cells #[.int .u64 (vundo y)] 22)
            generalize vundo y = u at *
            go_wp2_with (at_builtin; refine wpList_append_one rfl (.tmp 35) (.tmp 38) _ rfl w.heap.size 22 i0 _ 1 8 Try.underlying35 hi0 hz0 hs0 hb0 rfl (by omega) (by omega) (.slice A1 n1 c1) n1 _ rfl ho1 w2.heap.size #[.int .u64 u] rfl (Blk.new _ _ _) rfl rfl (by omega) (by simp; omega) ?_; intro A3 c3 w3 hown3 hg3 hat3)
            have hb3 := below_appended (hbw.alloc (by omega) _) ho1 hg3 (Nat.le_refl _) (by simp; omega)
            refine (R1.out _).mono ?_
            rintro e w4 ⟨rfl, hb4⟩
            go_wp2_with fail
            refine (P1.out _).mono ?_
            rintro e w5 ⟨rfl, hb5⟩
            have B4 := hb3.trans (hb4.mono hb3.size)
            have B5 := B4.trans (hb5.mono B4.size)
            go_wp2_with fail
            go_roundw
            case measure => simp [intOf]; omega
            case rel => exact ⟨k + 1, xs ++ [u], A3, n1 + 1, c3, y2, by go_num, by omega, rfl, rfl, rfl, by rw [HN.out, List.length_append]; rfl, Hb.out, by omega, Wm.out, by rw [ints_append]; exact own_below (own_below hown3 hb4) hb5, B5⟩
          · skip
            have Wf := hide (Few ⟨d1, by omega⟩)
            clear Few Mor
            generalize vturn _ y = y2 at *
            go_wp2_with fail
            refine (R1.out _).mono ?_
            rintro e w4 ⟨rfl, hb4⟩
            go_wp2_with fail
            refine (P1.out _).mono ?_
            rintro e w5 ⟨rfl, hb5⟩
            have B4 := hb.trans (hb4.mono hb.size)
            have B5 := B4.trans (hb5.mono B4.size)
            go_wp2_with fail
            go_roundw
            case measure => simp [intOf]; omega
            case rel => exact ⟨k + 1, xs, A1, n1, c1, y2, by go_num, by omega, rfl, rfl, rfl, HN.out, Hb.out, by omega, Wf.out, own_below (own_below hown hb4) hb5, B5⟩
      · clear rU P R
        have U1 := hide (U.out y HY.out)
        have hdf := HW.out.differ (by have := HN.out; omega)
        have Hdf := hide hdf
        have hrx := Reads.of_own hown
        clear hdf U
        generalize vundo y = z at *
        have hn60 : n1 ≤ 60 := by omega
        go_wp2_with fail
        go_loopw [10] (fun i wz => ∃ j : Nat, j ≤ n1 ∧ i = .int .i64 j ∧ Below wr.heap.size wr wz) (fun i _ => 1000 - (intOf i).toNat)
        case atStart => exact ⟨0, by omega, rfl, Below.refl _ _⟩
        case round =>
          obtain ⟨j, hj, rfl, hbz⟩ := hrel
          have B1 := hb.trans (hbz.mono hb.size)
          by_cases hlt : j < n1
          · obtain ⟨a, ea, hkl, z1⟩ := (hrx.below hbz).word hlt
            subst ea
            have ab := World.block_lt_of_cell? _ _ z1
            rw [block_of_add] at ab
            have hne := Hdf.out j hkl
            generalize xs[j] = v at *
            generalize wr = wD at *
            go_wp2_with fail
            refine wp_region_past (by kernel_rfl) (by kernel_rfl) ?_
            repeat (quiet_step ((first | (go_at_call 16; exact calls_past_same (U1.out _)))))
            refine wpQuiet_nil ?_
            intro _ hw'
            obtain ⟨y, hw''⟩ := hw'
            subst hw''
            have hy := past_below wD y
            have bz2 := hbz.trans (hy.mono hbz.size)
            clear hy
            generalize past wD y = w9 at *
            go_wp2_with fail
            go_roundw
            case measure => simp [intOf]; omega
            case rel => exact ⟨j + 1, by omega, by go_num, bz2⟩
          · go_wp2_with fail
            refine (Aw.out _).mono ?_
            rintro e w9 ⟨rfl, hb9⟩
            go_wp2_with fail
            go_ret
            exact ⟨rfl, B1.trans (hb9.mono B1.size)⟩
end Go.Proofs.Ytigjnnedkdmahaa
