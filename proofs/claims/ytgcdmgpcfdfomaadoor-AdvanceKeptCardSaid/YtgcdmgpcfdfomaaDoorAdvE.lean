/-
  The threads that were evicted: the bits of a word, told to a loop that collects them.
-/
import Derived.RangeFuncBox
import Derived.RangeFuncLeaves
import Derived.RangeFuncNested
import Derived.Shelf.Abstract
import Derived.WalkKit
import Derived.OwnWalkIn
import Derived.TacticsInMore
import Derived.LoopNIn
import Derived.LoopIn
import Derived.Maps.AppendAt
import Derived.CallsIn
import Derived.Laws.BitsAllLaws
import Derived.Laws.BitsLemmas
import Derived.Test.YtgcdmgpcfdfomaaDoorAdvP
import Derived.Test.YtgcdmgpcfdfomaaDoorPast
import Derived.Test.YtgcdmgpcfdfomaaDoorWords
namespace Go.Proofs.YtgcdmgpcfdfomaaDoor
open Go.RowKit Go.Shelf
attribute [local go_sem] Oper.semAt_some

theorem grown_below' {w w' : World} (hb : Below w.heap.size w w') (row : Option Nat) : w.grownBy w' row := ⟨hb.os, hb.tape, hb.output, hb.size, fun k hk _ => hb.block k hk⟩
theorem bit_at (n k : Nat) (hn : n < 2 ^ 64) : bits .and .u64 ((n : Int) / 2 ^ k) 1 = if n.testBit k = true then 1 else 0 := by
  have e : (n : Int) / 2 ^ k = ((n / 2 ^ k : Nat) : Int) := by simp
  have hl : n / 2 ^ k < 18446744073709551616 := Nat.lt_of_le_of_lt (Nat.div_le_self _ _) (by simpa using hn)
  rw [e, show (1 : Int) = ((1 : Nat) : Int) from rfl, bits_and_u64_nat _ _ hl (by omega), Nat.and_one_is_mod]
  have h2 : n.testBit k = decide (n / 2 ^ k % 2 = 1) := by rw [Nat.testBit_eq_decide_div_mod_eq]
  rw [h2]
  by_cases h : n / 2 ^ k % 2 = 1
  · simp [h]
  · simp [h]
    omega

/-- A box keeps what it holds. -/
def KeepBox (B : Nat) (t : TypeId) (v : Value) (W W' : World) : Prop := Boxed W B t v → Boxed W' B t v
theorem keepBox_t {B : Nat} {t : TypeId} {v : Value} {X Y Z : World} (h : KeepBox B t v X Y) (k : KeepBox B t v Y Z) : KeepBox B t v X Z := fun x => k (h x)
theorem keepBox_b {B : Nat} {t : TypeId} {v : Value} (W : World) (l : Nat) (o o' : Obj) (h : W.heap[l]? = some o) (hc : o.isCells = false) : KeepBox B t v W (W.putObj l o') := fun x =>
  x.kept (grownBy_putObj' W l o') (fun e => by
    cases e
    rw [show W.heap[B]? = _ from x] at h
    cases h
    cases hc)
set_option maxRecDepth 100000 in
set_option maxHeartbeats 2000000 in
theorem bits1_in (n : Nat) (hn : 1 ≤ n) (l Bw : Nat) (ev : Nat) (hev : ev < 2 ^ 64) (J Jx : List Int → World → Prop) (W : World)
    (hY : ∀ pre x W1, J pre W1 → pre.length < 64 → YieldAt Fence.wide (n - 1) Tryd.prog l #[.int .i64 x] W1 fun e W' =>
      (e = .returned (.bool true) ∧ J (pre ++ [x]) W' ∧ KeepBox Bw 29 (.int .u64 (ev : Int)) W1 W') ∨ (e = .returned (.bool false) ∧ Jx (pre ++ [x]) W'))
    (hBw : Boxed W Bw 29 (.int .u64 (ev : Int))) (h0 : J [] W) :
    CallsIn Fence.wide n Tryd.prog 49 #[.func (.yield l) #[] #[], .pointer (some ⟨Bw, 0, none⟩)] W fun e W' => (∃ v, e = .returned v) ∧
      ((∃ ys, ys = evL ev 64 ∧ J ys W') ∨ (∃ pre, True ∧ Jx pre W')) := by
  refine callsIn_of_wp Tryd.func49 rfl trivial ?_ rfl
  simp only [Tryd.ntmps49, List.size_toArray, List.length_cons, List.length_nil, Nat.reduceAdd, Nat.reduceSub, Array.replicate_succ, Array.replicate_zero, List.push_toArray, List.append_toArray, List.nil_append, List.cons_append]
  gi_wp2
  gi_loopw [4] (fun i wr => ∃ k : Nat, k ≤ 64 ∧ i = .int .i64 k ∧ J (evL ev k) wr ∧ Boxed wr Bw 29 (.int .u64 (ev : Int))) (fun i _ => 64 - (intOf i).toNat)
  case atStart => exact ⟨0, Nat.zero_le _, rfl, h0, hBw⟩
  case round =>
    obtain ⟨k, hk, rfl, hJs, hb⟩ := hrel
    have hc := hb.cell
    by_cases hlt : k < 64
    · have hT := bit_at ev k hev
      have hL := evL_succ ev k
      have hLen : (evL ev k).length < 64 := Nat.lt_of_le_of_lt (evL_len ev k) hlt
      obtain ⟨q, hq⟩ : ∃ q : Int, (ev : Int) / 2 ^ k = q := ⟨_, rfl⟩
      rw [hq] at hT
      have hk1_ : k + 1 ≤ 64 := by omega
      have hms_ : 64 - (k + 1) < 64 - k := by omega
      have hwn_ : ((k : Int) + 1).toNat = k + 1 := by omega
      have hkc_ : ((k + 1 : Nat) : Int) = (k : Int) + 1 := by omega
      have hkz : (k : Int) < 64 := by omega
      have hk1 := hide hk1_
      have hms := hide hms_
      have hwn := hide hwn_
      have hkc := hide hkc_
      clear hk1_ hms_ hwn_ hkc_
      by_cases ht : ev.testBit k = true
      · rw [if_pos ht] at hT hL
        obtain ⟨fn, tmps, assign, body, hy, hR⟩ := hY _ (k : Int) wr hJs hLen
        have HL := hide hL
        clear hY hL
        gi_wp2
        refine hR.mono ?_
        rintro e W3 (⟨rfl, hJ3, hk3⟩ | ⟨rfl, hJx3⟩)
        · have HB := hide (hk3 hb)
          have HJ := hide hJ3
          clear hR hy hb hJs hJ3 hk3 hc hBw hT hq hlt hLen hk
          gi_wp2
          go_roundw
          case rel => exact ⟨k + 1, hk1.out, by rw [hkc.out], by rw [HL.out]; exact HJ.out, HB.out⟩
          case measure =>
            simp only [intOf, hwn.out, Int.toNat_natCast]
            exact hms.out
        · gi_wp2
          refine bodyPost_ret (results_none rfl _ _ _) rfl ?_
          exact ⟨⟨_, rfl⟩, .inr ⟨_, trivial, hJx3⟩⟩
      · rw [if_neg ht] at hT hL
        rw [List.append_nil] at hL
        have HL := hide hL
        have HB := hide hb
        have HJ := hide hJs
        clear hY hL hb hJs hlt hLen hk
        gi_wp2
        refine ⟨fun _ h => (by cases h), ?_⟩
        clear hc hBw hT hq
        gi_wp2
        go_roundw
        case rel => exact ⟨k + 1, hk1.out, by rw [hkc.out], by rw [HL.out]; exact HJ.out, HB.out⟩
        case measure =>
          simp only [intOf, hwn.out, Int.toNat_natCast]
          exact hms.out
    · obtain rfl : k = 64 := by omega
      gi_wp2
      go_end0
      exact ⟨⟨_, rfl⟩, .inl ⟨_, rfl, hJs⟩⟩

set_option maxHeartbeats 1000000 in
theorem bits_in (n : Nat) (x0 : Int) (w : World) :
    CallsIn Fence.wide n Tryd.prog 40 #[.int .u64 x0] w fun e w' => e = .returned (.func (.func 49) #[] #[.pointer (some ⟨w.heap.size, 0, none⟩)]) ∧ w' = w.alloc (.cells #[.int .u64 x0] 29) := by
  refine callsIn_of_wp Tryd.func40 rfl trivial ?_ rfl
  simp only [Tryd.ntmps40, List.size_toArray, List.length_cons, List.length_nil, Nat.reduceAdd, Nat.reduceSub, Array.replicate_succ, Array.replicate_zero, List.push_toArray, List.append_toArray, List.nil_append, List.cons_append]
  gi_wp2
  go_ret
  exact ⟨rfl, rfl⟩
theorem bits_stops (n : Nat) (hn : 1 ≤ n) (Bw : Nat) (ev : Nat) (hev : ev < 2 ^ 64) (w : World) (hcw : Boxed w Bw 29 (.int .u64 (ev : Int))) :
    SeqStopsK Fence.wide n Tryd.prog 49 #[.pointer (some ⟨Bw, 0, none⟩)] (fun x : Int => #[Value.int .i64 x]) (KeepBox Bw 29 (.int .u64 (ev : Int))) (fun ys => ys = evL ev 64) (fun _ => True) 64 w := fun l J Jx W hW _ _ hY h0 =>
  bits1_in n hn l Bw ev hev J Jx W hY ((hW.block Bw hcw.lt).trans hcw) h0
theorem infoIE : (Tryd.prog.info? 3).map (fun i => (i.zero, i.size, i.bytes)) = some (some (.int .i64 0), 1, 8) := by kernel_rfl
set_option maxRecDepth 100000 in
set_option maxHeartbeats 2000000 in
theorem evicted_in (s t f l p own k oc ep th wd ju : Int) (ev : Nat) (w : World) (hev : ev < 2 ^ 64) :
    CallsIn Fence.wide 5 Tryd.prog 21 #[.agg #[.int .i64 s, .int .i64 t, .int .i64 f, .int .i64 l, .int .i64 p, .int .i64 own, .int .i64 k, .int .i64 oc, .int .u64 ep, .int .i64 th, .int .u64 wd, .int .u64 (ev : Int), .int .i64 ju]] w fun e W' => (∃ A c, e = .returned (.slice A (evL ev 64).length c) ∧ W'.ownsRow w.heap.size 3 1 (.slice A (evL ev 64).length c) (evL ev 64).length (ints .i64 (evL ev 64))) ∧ Below w.heap.size w W' := by
  obtain ⟨i0, hi, hz0, hz1, hz2⟩ := info_parts infoIE
  refine callsIn_of_wp_marks Tryd.func21 rfl trivial ?_ rfl
  simp only [Tryd.ntmps21, List.size_toArray, List.length_cons, List.length_nil, Nat.reduceAdd, Nat.reduceSub, Array.replicate_succ, Array.replicate_zero, List.push_toArray, List.append_toArray, List.nil_append, List.cons_append]
  gi_wp2
  refine ⟨trivial, ?_⟩
  refine (bits_in _ _ _).mono ?_
  rintro e w' ⟨rfl, rfl⟩
  gi_wp2
  obtain ⟨W3, hW3⟩ : ∃ W3, (((w.alloc (.cells #[.int .i64 s, .int .i64 t, .int .i64 f, .int .i64 l, .int .i64 p, .int .i64 own, .int .i64 k, .int .i64 oc, .int .u64 ep, .int .i64 th, .int .u64 wd, .int .u64 (ev : Int), .int .i64 ju] 39)).alloc (.cells #[.slice none 0 0] 51)).alloc (.cells #[.int .u64 (ev : Int)] 29)) = W3 := ⟨_, rfl⟩
  have bO := (Boxed.new (w.alloc (.cells #[.int .i64 s, .int .i64 t, .int .i64 f, .int .i64 l, .int .i64 p, .int .i64 own, .int .i64 k, .int .i64 oc, .int .u64 ep, .int .i64 th, .int .u64 wd, .int .u64 (ev : Int), .int .i64 ju] 39)) 51 (.slice none 0 0)).alloc (.cells #[.int .u64 (ev : Int)] 29)
  have bE := Boxed.new ((w.alloc (.cells #[.int .i64 s, .int .i64 t, .int .i64 f, .int .i64 l, .int .i64 p, .int .i64 own, .int .i64 k, .int .i64 oc, .int .u64 ep, .int .i64 th, .int .u64 wd, .int .u64 (ev : Int), .int .i64 ju] 39)).alloc (.cells #[.slice none 0 0] 51)) 29 (.int .u64 (ev : Int))
  have hB : Below w.heap.size w (((w.alloc (.cells #[.int .i64 s, .int .i64 t, .int .i64 f, .int .i64 l, .int .i64 p, .int .i64 own, .int .i64 k, .int .i64 oc, .int .u64 ep, .int .i64 th, .int .u64 wd, .int .u64 (ev : Int), .int .i64 ju] 39)).alloc (.cells #[.slice none 0 0] 51)).alloc (.cells #[.int .u64 (ev : Int)] 29)) := (((Below.refl _ w).alloc (Nat.le_refl _) _).alloc (by simp) _).alloc (by simp; omega) _
  rw [hW3] at bO bE hB ⊢
  simp only [World.size_alloc] at bO bE
  have hsz : W3.heap.size = w.heap.size + 1 + 1 + 1 := by rw [← hW3]; simp only [World.size_alloc]
  clear hW3
  refine wpIn_rangeFunc_ownG rfl (by omega) (gf := 49) (lb := #[.pointer (some ⟨w.heap.size + 1 + 1, 0, none⟩)]) rfl trivial (enters_of Tryd.func49 (by kernel_rfl) rfl)
    (bits_stops 4 (by omega) (w.heap.size + 1 + 1) ev hev W3 bE) keepBox_t (fun W l o o' _ h hc _ => keepBox_b W l o o' h hc) (Below.refl _ _) (fun _ => rfl)
    (fun (pre : List Int) W => (∃ v, Boxed W (w.heap.size + 1) 51 v ∧ W.ownsRow w.heap.size 3 1 v pre.length (pre.map (Value.int .i64)) ∧ True) ∧ (Boxed W (w.heap.size + 1 + 1) 29 (.int .u64 (ev : Int)) ∧ Below w.heap.size w W))
    (fun _ _ _ => False)
    (OwnFrom.and (Own.from (holdsRow_own w.heap.size (w.heap.size + 1) 51 3 1 (fun pre : List Int => pre.length) (fun pre => pre.map (Value.int .i64)) (fun _ _ => True)) _) (OwnFrom.and (Own.from (fun s X Y row hs hg hrow => hs.kept hg (fun e' => by obtain ⟨o, ho, hc⟩ := hrow _ e'.symm; rw [show X.heap[w.heap.size + 1 + 1]? = _ from hs] at ho; cases ho; cases hc)) _) (ownFrom_below (Nat.le_refl _) (by omega))))
    (fun _ _ _ _ _ hs _ _ => hs)
    ⟨⟨_, bO, World.ownsRow_nil _ _ _ _, trivial⟩, bE, hB⟩
    (fun (x : Int) => { tmps := #[.agg #[.int .i64 s, .int .i64 t, .int .i64 f, .int .i64 l, .int .i64 p, .int .i64 own, .int .i64 k, .int .i64 oc, .int .u64 ep, .int .i64 th, .int .u64 wd, .int .u64 (ev : Int), .int .i64 ju], .pointer (some ⟨w.heap.size, 0, none⟩), .slice none 0 0, .pointer (some ⟨w.heap.size + 1, 0, none⟩), .int .i64 x, .pointer (some ⟨w.heap.size, 11, none⟩), .int .u64 (ev : Int), .func (.func 49) #[] #[.pointer (some ⟨w.heap.size + 1 + 1, 0, none⟩)], .int .i64 x, undef, undef, undef, undef, undef], defers := [] }) ?assign ?body ?done ?stop
  case assign =>
    intro l x W K hK
    gi_wp2
    exact hK
  case body =>
    rintro l pre x W ⟨⟨v, hv, hrow, _⟩, hE, hB⟩ hlt
    have hc := hv.cell
    have hml : pre.length + 1 ≤ maxLen := Nat.le_trans (show pre.length + 1 ≤ 64 by omega) (by decide)
    gi_wp2_with (gi_at_builtin; refine wpListIn_append_own _ rfl _ _ 51 rfl w.heap.size 3 i0 (.int .i64 0) 1 8 Tryd.underlying51 hi hz0 hz1 hz2 rfl (by decide) _ _ _ rfl (hrow.alloc _) ⟨W.heap.size, 0, none⟩ 1 1 [.int .i64 x] rfl rfl (cell_one_new _ _ _) (by simp [Value.oneCell']) (by omega) (by omega) (by have := hB.size; simp; omega) ?_; intro v' w1 hown' hgrow _; obtain ⟨g', cap', rfl⟩ := ownsRow_succ hown'; obtain ⟨hv1, hv2, hr2, hk2, hb2⟩ := hv.appended (by decide) hrow hB.size (by omega) hown' hgrow; have hc1 := hv1.cell; have hf1 := hv1.frozen; have hE2 := ((hE.alloc _).kept hgrow (hE.not_row (by decide) hrow)).other (B' := w.heap.size + 1) (by omega) (.slice (some ⟨g', 0, none⟩) (pre.length + 1) cap'))
    exact ⟨hk2.from _, fun _ => hE2, ⟨_, hv2, by rw [List.length_append, List.map_append]; exact hr2, trivial⟩, hE2, hB.trans hb2⟩
  case done =>
    rintro D ys W hD rfl ⟨⟨v, hv, hrow, _⟩, hE, hB⟩ hK
    have hc := hv.cell
    obtain ⟨G, cg, rfl, _⟩ := own_reads hrow
    have HD := hide (show w.heap.size ≤ D by omega)
    gi_wp2
    refine ⟨by simp, .inl ⟨_, _, rfl, run_takeDeferred hK, ?_⟩⟩
    exact ⟨_, results_tmp rfl _ _ _, ⟨G, cg, rfl, ownsRow_putObj hrow _ hK rfl⟩, hB.trans (belowK_b (w := w) (Nat.le_refl _) W D _ _ HD.out hK rfl rfl)⟩
  case stop =>
    rintro D c pre W _ _ h _
    exact h.elim
theorem evicted_any (s t f l p own k oc ep th wd ju : Int) (ev : Nat) (w : World) (hev : ev < 2 ^ 64) :
    Calls Tryd.prog 21 #[.agg #[.int .i64 s, .int .i64 t, .int .i64 f, .int .i64 l, .int .i64 p, .int .i64 own, .int .i64 k, .int .i64 oc, .int .u64 ep, .int .i64 th, .int .u64 wd, .int .u64 (ev : Int), .int .i64 ju]] w fun e W' => (∃ A c, e = .returned (.slice A (evL ev 64).length c) ∧ W'.ownsRow w.heap.size 3 1 (.slice A (evL ev 64).length c) (evL ev 64).length (ints .i64 (evL ev 64))) ∧ Below w.heap.size w W' :=
  (callsIn_wide (n := 5)).1 (evicted_in s t f l p own k oc ep th wd ju ev w hev)
end Go.Proofs.YtgcdmgpcfdfomaaDoor
