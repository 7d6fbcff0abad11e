/-
  The heads that come of one by any slots: hword.Turns' closure, told to any loop body.
-/
import Derived.RangeFuncBox
import Derived.RangeFuncLeaves
import Derived.Shelf.Abstract
import Derived.WalkKit
import Derived.OwnWalkIn
import Derived.TacticsInMore
import Derived.LoopNIn
import Derived.LoopIn
import Derived.Maps.AppendAt
import Derived.CallsIn
import Derived.Test.YtimhpcenfofidaaHword
import Derived.Test.YtimhpcenfofidaaPast
import Derived.Test.YtimhpcenfofidaaWords
namespace Go.Proofs.Ytimhpcenfofidaa
open Go.RowKit Go.Shelf
attribute [local go_sem] Oper.semAt_some

theorem grown_below' {w w' : World} (hb : Below w.heap.size w w') (row : Option Nat) : w.grownBy w' row := ⟨hb.os, hb.tape, hb.output, hb.size, fun k hk _ => hb.block k hk⟩
def tAll (x : Int) (l : List Int) : Nat → Int
  | 0 => x
  | k + 1 => hturn (tAll x l k) (l.getD k 0)
theorem tAll_bound {x : Int} {l : List Int} (h : W64 x) : ∀ k, W64 (tAll x l k)
  | 0 => h
  | _ + 1 => hturn_bound _ _
/-- What has come when k rounds are over. -/
def tList (x : Int) (l : List Int) (k : Nat) : List Int := (List.range k).map fun j => tAll x l (j + 1)
theorem tList_succ (x : Int) (l : List Int) (k : Nat) : tList x l (k + 1) = tList x l k ++ [tAll x l (k + 1)] := by simp [tList, List.range_succ]
theorem tList_len (x : Int) (l : List Int) (k : Nat) : (tList x l k).length = k := by simp [tList]

set_option maxRecDepth 100000 in
set_option maxHeartbeats 2000000 in
theorem turns1_in (n : Nat) (hn : 1 ≤ n) (l Bw Bs n₀ : Nat) (A : Option Addr) (m c : Nat) (zs : List Int) (x0 : Int) (hx0 : W64 x0) (hm : m ≤ 60) (hz : ∀ y ∈ zs, I64 y) (J Jx : List Int → World → Prop) (W : World) (hJ : AbidesFrom W.heap.size J)
    (hY : ∀ pre x W1, J pre W1 → pre.length < m → YieldAt Fence.wide (n - 1) Try.prog l #[.int .u64 x] W1 fun e W' =>
      (e = .returned (.bool true) ∧ J (pre ++ [x]) W' ∧ Below n₀ W1 W') ∨ (e = .returned (.bool false) ∧ Jx (pre ++ [x]) W'))
    (hBw : W.cell? ⟨Bw, 0, none⟩ = some (.int .u64 x0)) (hBs : W.cell? ⟨Bs, 0, none⟩ = some (.slice A m c)) (hr : Reads W n₀ 1 A m (ints .i64 zs)) (hn0 : n₀ ≤ W.heap.size) (h0 : J [] W) :
    CallsIn Fence.wide n Try.prog 18 #[.func (.yield l) #[] #[], .pointer (some ⟨Bw, 0, none⟩), .pointer (some ⟨Bs, 0, none⟩)] W fun e W' => (∃ v, e = .returned v) ∧
      ((∃ ys, ys = tList x0 zs m ∧ J ys W') ∨ (∃ pre, True ∧ Jx pre W')) := by
  refine callsIn_of_wp Try.func18 rfl trivial ?_ rfl
  simp only [Try.ntmps18, List.size_toArray, List.length_cons, List.length_nil, Nat.reduceAdd, Nat.reduceSub, Array.replicate_succ, Array.replicate_zero, List.push_toArray, List.append_toArray, List.nil_append, List.cons_append]
  gi_wp2
  gi_loopw [4, 10] (fun v i wr => ∃ k : Nat, k ≤ m ∧ i = .int .i64 k ∧ v = .int .u64 (tAll x0 zs k) ∧ J (tList x0 zs k) wr ∧ Below n₀ W wr ∧ n₀ ≤ wr.heap.size) (fun _ i _ => m - (intOf i).toNat)
  case atStart => exact ⟨0, Nat.zero_le _, rfl, rfl, h0, Below.refl _ _, hn0⟩
  case round =>
    obtain ⟨k, hk, rfl, rfl, hJs, hb, hsz⟩ := hrel
    by_cases hlt : k < m
    · obtain ⟨a, rfl, hkl, z1⟩ := (hr.below hb).word hlt
      have T := hide (fun w2 => hturn_any (tAll x0 zs k) zs[k] w2 (tAll_bound hx0 k) (hz _ (List.getElem_mem hkl)))
      have hG : hturn (tAll x0 zs k) zs[k] = tAll x0 zs (k + 1) := by
        show _ = hturn _ (zs.getD k 0)
        rw [show zs.getD k 0 = zs[k] by simp [List.getD, hkl]]
      rw [hG] at T
      generalize zs[k] = z at *
      generalize tAll x0 zs k = v at *
      have hL := tList_succ x0 zs k
      have hLen := tList_len x0 zs k
      generalize hv1 : tAll x0 zs (k + 1) = v1 at *
      generalize tList x0 zs k = pre at *
      have hkz : (k : Int) < (m : Int) := by omega
      gi_wp2
      refine ⟨trivial, ?_⟩
      refine (callsIn_wide.2 (T.out _)).mono ?_
      rintro e w2 ⟨rfl, hb2⟩
      have hJ2 := hJ _ _ _ none hJs (grown_below' hb2 none) (fun r e => by cases e)
      obtain ⟨fn, tmps, assign, body, hy, hR⟩ := hY pre v1 w2 hJ2 (by omega)
      gi_wp2
      refine hR.mono ?_
      rintro e W3 (⟨rfl, hJ3, hk3⟩ | ⟨rfl, hJx3⟩)
      · have hb3 : Below n₀ W W3 := (hb.trans (hb2.mono hsz)).trans hk3
        have hsz3 : n₀ ≤ W3.heap.size := Nat.le_trans (Nat.le_trans hsz hb2.size) hk3.size
        have hk1 : k + 1 ≤ m := by omega
        have hJ3' : J (tList x0 zs (k + 1)) W3 := by rw [hL]; exact hJ3
        have hms : m - (k + 1) < m - k := by omega
        have hwn : ((k : Int) + 1).toNat = k + 1 := by omega
        have hkc : ((k + 1 : Nat) : Int) = (k : Int) + 1 := by omega
        have hwk : IntKind.i64.wrap ((k : Int) + 1) = (k : Int) + 1 := IntWalk.i64_in _ (by omega)
        have hwk2 : wrap64 ((k : Int) + 1) = (k : Int) + 1 := IntWalk.wrap64_in _ (by omega)
        clear hY hJ hr hz T hG hL hLen hlt hk hkl z1 hR
        gi_wp2
        go_roundw
        case rel => exact ⟨k + 1, hk1, by rw [hkc], by rw [hv1], hJ3', hb3, hsz3⟩
        case measure =>
          simp only [intOf, hwn, Int.toNat_natCast]
          exact hms
      · gi_wp2
        refine bodyPost_ret (results_none rfl _ _ _) rfl ?_
        exact ⟨⟨_, rfl⟩, .inr ⟨_, trivial, hJx3⟩⟩
    · obtain rfl : k = m := by omega
      gi_wp2
      go_end0
      exact ⟨⟨_, rfl⟩, .inl ⟨_, rfl, hJs⟩⟩

set_option maxHeartbeats 1000000 in
/-- hword.Turns: both arguments are boxed; the function value captures the boxes. -/
theorem turns_in (n : Nat) (x0 : Int) (A : Option Addr) (m c : Nat) (w : World) :
    CallsIn Fence.wide n Try.prog 15 #[.int .u64 x0, .slice A m c] w fun e w' => e = .returned (.func (.func 18) #[] #[.pointer (some ⟨w.heap.size, 0, none⟩), .pointer (some ⟨w.heap.size + 1, 0, none⟩)]) ∧ w' = (w.alloc (.cells #[.int .u64 x0] 22)).alloc (.cells #[.slice A m c] 31) := by
  refine callsIn_of_wp Try.func15 rfl trivial ?_ rfl
  simp only [Try.ntmps15, List.size_toArray, List.length_cons, List.length_nil, Nat.reduceAdd, Nat.reduceSub, Array.replicate_succ, Array.replicate_zero, List.push_toArray, List.append_toArray, List.nil_append, List.cons_append]
  gi_wp2
  go_ret
  exact ⟨rfl, rfl⟩

theorem turns_stops (n : Nat) (hn : 1 ≤ n) (Bw Bs n₀ : Nat) (A : Option Addr) (m c : Nat) (zs : List Int) (x0 : Int) (hx0 : W64 x0) (hm : m ≤ 60) (hz : ∀ y ∈ zs, I64 y) (w : World) (hBw : Bw < w.heap.size) (hBs : Bs < w.heap.size) (hn₀ : n₀ ≤ w.heap.size)
    (hcw : w.cell? ⟨Bw, 0, none⟩ = some (.int .u64 x0)) (hcs : w.cell? ⟨Bs, 0, none⟩ = some (.slice A m c)) (hr : Reads w n₀ 1 A m (ints .i64 zs)) :
    SeqStopsK Fence.wide n Try.prog 18 #[.pointer (some ⟨Bw, 0, none⟩), .pointer (some ⟨Bs, 0, none⟩)] (fun x : Int => #[Value.int .u64 x]) (Below n₀) (fun ys => ys = tList x0 zs m) (fun _ => True) m w := fun l J Jx W hW hJ _ hY h0 =>
  turns1_in n hn l Bw Bs n₀ A m c zs x0 hx0 hm hz J Jx W hJ hY ((hW.cell (p := ⟨Bw, 0, none⟩) hBw).trans hcw) ((hW.cell (p := ⟨Bs, 0, none⟩) hBs).trans hcs) (hr.below (hW.mono hn₀)) (Nat.le_trans hn₀ hW.size) h0
end Go.Proofs.Ytimhpcenfofidaa
