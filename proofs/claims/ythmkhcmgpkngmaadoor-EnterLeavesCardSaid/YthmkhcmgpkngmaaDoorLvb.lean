/-
  What a thread that leaves wants, told to any loop body: enter.Leaves' closure.
-/
import Derived.RangeFuncBox
import Derived.RangeFuncLeaves
import Derived.RangeFuncNested
import Derived.Shelf.Abstract
import Derived.WalkKit
import Derived.OwnWalkIn
import Derived.TacticsInMore
import Derived.LoopNIn
import Derived.LoopIn
import Derived.Maps.AppendAt
import Derived.CallsIn
import Derived.Test.YthmkhcmgpkngmaaDoorLv
namespace Go.Proofs.YthmkhcmgpkngmaaDoor
open Go.RowKit Go.Shelf
attribute [local go_sem] Oper.semAt_some

theorem grown_below' {w w' : World} (hb : Below w.heap.size w w') (row : Option Nat) : w.grownBy w' row := ⟨hb.os, hb.tape, hb.output, hb.size, fun k hk _ => hb.block k hk⟩
/-- Blocks of one type lie as they lay. -/
def KeepTy (T : TypeId) (W W' : World) : Prop := ∀ B cs, Blk W B T cs → Blk W' B T cs
theorem keepTy_t {T : TypeId} {X Y Z : World} (h : KeepTy T X Y) (k : KeepTy T Y Z) : KeepTy T X Z := fun B cs x => k B cs (h B cs x)
theorem keepTy_b {T : TypeId} (W : World) (l : Nat) (o o' : Obj) (h : W.heap[l]? = some o) (hc : o.isCells = false) : KeepTy T W (W.putObj l o') := fun B cs x =>
  x.grown (grownBy_putObj' W l o') (fun e => by
    injection e with e
    subst e
    rw [show W.heap[B]? = _ from x] at h
    cases h
    cases hc)
theorem keepTy_below {T : TypeId} {W W' : World} (hb : Below W.heap.size W W') : KeepTy T W W' := fun _ _ x => x.below hb x.lt
theorem keepTy_grown {T U : TypeId} {W W' : World} {g : Nat} {cs0 : Array Value} (hg : W.grownBy W' (some g)) (hb : Blk W g U cs0) (hne : T ≠ U) : KeepTy T W W' := fun B cs x =>
  x.grown hg (fun e => by cases e; exact x.ne_ hb hne rfl)
theorem keepTy_own {T e : TypeId} {W W' : World} {base s n : Nat} {v : Value} {xs : List Value} (hr : W.ownsRow base e s v n xs) (hg : W.grownBy W' v.ownBlock) (hne : e ≠ T) : KeepTy T W W' := fun _ _ x =>
  x.grown hg (own_blk_ne hr x hne).symm
theorem keepTy_set {T U : TypeId} {W : World} {g f : Nat} {cs0 : Array Value} (hb : Blk W g U cs0) (hne : T ≠ U) (u : Value) : KeepTy T W (W.setCell ⟨g, f, none⟩ u) := fun _ _ x =>
  x.far (p := ⟨g, f, none⟩) (x.ne_ hb hne) u

abbrev A2 (x : Int) : Value := .agg #[.int .i64 2, .int .i64 x, .int .u64 0, .int .u64 0]
abbrev lvA (s t f l p th : Int) (left mo : Int) : Array Value := #[.int .i64 s, .int .i64 t, .int .i64 f, .int .i64 l, .int .i64 p, .int .i64 th, .int .i64 left, .int .i64 mo]
def lvLeft (v : Value) (w : World) : Nat :=
  match v with
  | .pointer (some a) => match w.cell? ⟨a.block, 6, none⟩ with | some (.int _ n) => n.toNat | _ => 0
  | _ => 0
theorem lvLeft_of {w : World} {B : Nat} {s t f l p th left mo : Int} (h : Blk w B 46 (lvA s t f l p th left mo)) : lvLeft (.pointer (some ⟨B, 0, none⟩)) w = left.toNat := by
  have := h.cell 6
  unfold lvLeft
  simp only [this]
  rfl
def aL (a : Nat → Int) (k : Nat) : List Int := (List.range k).map a
theorem aL_succ (a : Nat → Int) (k : Nat) : aL a (k + 1) = aL a k ++ [a k] := by simp [aL, List.range_succ]
theorem aL_len (a : Nat → Int) (k : Nat) : (aL a k).length = k := by simp [aL]

set_option maxRecDepth 100000 in
set_option maxHeartbeats 2000000 in
theorem leaves1_in (n : Nat) (hn : 1 ≤ n) (ld Bl Bt Bs : Nat) (s' t' f' l' p' th' s t f l p th : Int) (sl : Bool) (mo : Nat) (hmo : mo ≤ 3) (a : Nat → Int) (J Jx : List Int → World → Prop) (W : World) (hJ : AbidesFrom W.heap.size J)
    (hNew : ∀ w2, Calls Tryd.prog 31 #[.agg #[.int .i64 s', .int .i64 t', .int .i64 f', .int .i64 l', .int .i64 p'], .int .i64 th', .bool sl] w2 fun e w' => e = .returned (.agg (lvA s t f l p th mo mo)) ∧ Below w2.heap.size w2 w')
    (hWant : ∀ k, k < mo → ∀ w2, Calls Tryd.prog 19 #[.agg (lvA s t f l p th ((mo - k : Nat) : Int) mo)] w2 fun e w' => e = .returned (A2 (a k)) ∧ Below w2.heap.size w2 w')
    (hTook : ∀ k, k < mo → ∀ g w2, Calls Tryd.prog 32 #[.agg (lvA s t f l p th ((mo - k : Nat) : Int) mo), .int .u64 g] w2 fun e w' => e = .returned (.agg (lvA s t f l p th ((mo - (k + 1) : Nat) : Int) mo)) ∧ Below w2.heap.size w2 w')
    (hDone : ∀ (j : Nat) w2, Calls Tryd.prog 18 #[.agg (lvA s t f l p th (j : Int) mo)] w2 fun e w' => e = .returned (.bool (decide (j = 0))) ∧ Below w2.heap.size w2 w')
    (hY : ∀ pre x W1, J pre W1 → pre.length < 3 → YieldAt Fence.wide (n - 1) Tryd.prog ld #[A2 x] W1 fun e W' =>
      (e = .returned (.bool true) ∧ J (pre ++ [x]) W' ∧ KeepTy 46 W1 W') ∨ (e = .returned (.bool false) ∧ Jx (pre ++ [x]) W'))
    (bl : Blk W Bl 27 #[.int .i64 s', .int .i64 t', .int .i64 f', .int .i64 l', .int .i64 p']) (bt : Blk W Bt 3 #[.int .i64 th']) (bs : Blk W Bs 4 #[.bool sl]) (h0 : J [] W) :
    CallsIn Fence.wide n Tryd.prog 65 #[.func (.yield ld) #[] #[], .pointer (some ⟨Bl, 0, none⟩), .pointer (some ⟨Bt, 0, none⟩), .pointer (some ⟨Bs, 0, none⟩)] W fun e W' => (∃ v, e = .returned v) ∧
      ((∃ ys, ys = aL a mo ∧ J ys W') ∨ (∃ pre, True ∧ Jx pre W')) := by
  have HN := hide hNew
  have HW := hide hWant
  have HT := hide hTook
  have HD := hide hDone
  have HY := hide hY
  clear hNew hWant hTook hDone hY
  have ml := fun i => bl.cell i
  have mt := fun i => bt.cell i
  have ms := fun i => bs.cell i
  refine callsIn_of_wp Tryd.func65 rfl trivial ?_ rfl
  simp only [Tryd.ntmps65, List.size_toArray, List.length_cons, List.length_nil, Nat.reduceAdd, Nat.reduceSub, Array.replicate_succ, Array.replicate_zero, List.push_toArray, List.append_toArray, List.nil_append, List.cons_append]
  gi_wp2
  refine ⟨trivial, ?_⟩
  refine (callsIn_wide.2 (HN.out _)).mono ?_
  rintro e w2 ⟨rfl, hb2⟩
  gi_wp2
  have HJ := hide hJ
  have hJ0 := hide (hJ _ _ _ none h0 (grown_below' (hb2.trans (((Below.refl _ w2).alloc (Nat.le_refl _) (.cells (lvA s t f l p th mo mo) 46)).mono hb2.size)) none) (fun r e => by cases e))
  clear hJ h0
  gi_loopw [5] (fun v wr => ∃ (k B : Nat), k ≤ mo ∧ v = .pointer (some ⟨B, 0, none⟩) ∧ Blk wr B 46 (lvA s t f l p th ((mo - k : Nat) : Int) mo) ∧ J (aL a k) wr) (fun v wr => lvLeft v wr)
  case atStart => exact ⟨0, _, Nat.zero_le _, rfl, Blk.new w2 _ _, hJ0.out⟩
  case round =>
    clear hJ0 hb2 HN ml mt ms bl bt bs
    obtain ⟨k, B, hk, rfl, hB, hJs⟩ := hrel
    have hme := hide (lvLeft_of hB)
    by_cases hlt : k < mo
    · have D := hide (HD.out (mo - k))
      rw [show decide (mo - k = 0) = false by rw [decide_eq_false_iff_not]; omega] at D
      have Wt := hide (HW.out k hlt)
      have Tk := hide (HT.out k hlt)
      have hL := hide (aL_succ a k)
      have hLen := hide (show (aL a k).length < 3 by rw [aL_len]; omega)
      have hms := hide (show ((mo - (k + 1) : Nat) : Int).toNat < ((mo - k : Nat) : Int).toNat by omega)
      have hk1 := hide (show k + 1 ≤ mo by omega)
      clear HD HW HT hlt hk
      obtain ⟨j1, hj1⟩ : ∃ j1, j1 = ((mo - (k + 1) : Nat) : Int) := ⟨_, rfl⟩
      rw [← hj1] at Tk hms
      have Hj1 := hide hj1
      clear hj1
      generalize ((mo - k : Nat) : Int) = j at *
      have mB := fun i => hB.cell i
      gi_wp2
      refine ⟨trivial, ?_⟩
      refine (callsIn_wide.2 (D.out _)).mono ?_
      rintro e w3 ⟨rfl, hb3⟩
      replace hB := hB.below hb3 hB.lt
      replace hJs := HJ.out _ _ _ none hJs (grown_below' hb3 none) (fun r e => by cases e)
      clear mB hb3
      have mB := fun i => hB.cell i
      gi_wp2
      refine ⟨trivial, ?_⟩
      refine (callsIn_wide.2 (Wt.out _)).mono ?_
      rintro e w4 ⟨rfl, hb4⟩
      replace hB := hB.below hb4 hB.lt
      replace hJs := HJ.out _ _ _ none hJs (grown_below' hb4 none) (fun r e => by cases e)
      clear mB hb4
      have mB := fun i => hB.cell i
      obtain ⟨fn, tmps, assign, body, hy, hR⟩ := HY.out _ (a k) w4 hJs hLen.out
      gi_wp2
      refine hR.mono ?_
      rintro e W5 (⟨rfl, hJ5, hk5⟩ | ⟨rfl, hJx5⟩)
      · have hB5 := hk5 _ _ hB
        clear mB hB hJs hk5 hy hR
        have mB := fun i => hB5.cell i
        have hb6 := (Below.refl W5.heap.size W5).alloc (Nat.le_refl _) (.cells (lvA s t f l p th j mo) 46)
        have hN := Blk.new W5 46 (lvA s t f l p th j mo)
        gi_wp2
        refine ⟨trivial, ?_⟩
        refine (callsIn_wide.2 (Tk.out _ _)).mono ?_
        rintro e w6 ⟨rfl, hb7⟩
        replace hN := hN.below hb7 hN.lt
        replace hb6 := hb6.trans (hb7.mono hb6.size)
        have mN := fun i => hN.cell i
        have fN := fun i => hN.frozen i
        have hN9 := hN.put8 (.int .i64 s) (.int .i64 t) (.int .i64 f) (.int .i64 l) (.int .i64 p) (.int .i64 th) (.int .i64 j1) (.int .i64 mo)
        have hb9 := below_put8 hb6 (g := W5.heap.size) (Nat.le_refl _) (.int .i64 s) (.int .i64 t) (.int .i64 f) (.int .i64 l) (.int .i64 p) (.int .i64 th) (.int .i64 j1) (.int .i64 mo)
        have HJ9 := hide (HJ.out _ _ _ none hJ5 (grown_below' hb9 none) (fun r e => by cases e))
        have hme9 := hide (lvLeft_of hN9)
        clear mB hB5 hb7 hb6 hb9 hJ5
        gi_wp2
        go_roundw
        case rel => exact ⟨k + 1, _, hk1.out, rfl, by rw [← Hj1.out]; exact hN9, by rw [hL.out]; exact HJ9.out⟩
        case measure =>
          rw [hme.out]
          refine Nat.lt_of_le_of_lt (Nat.le_of_eq ?_) hms.out
          exact hme9.out
      · gi_wp2
        refine bodyPost_ret (results_none rfl _ _ _) rfl ?_
        exact ⟨⟨_, rfl⟩, .inr ⟨_, trivial, hJx5⟩⟩
    · have hkm : k = mo := by omega
      subst hkm
      have D := hide (HD.out 0)
      have e0 : ((k - k : Nat) : Int) = ((0 : Nat) : Int) := by omega
      rw [e0] at hB
      rw [show decide (0 = 0) = true from rfl] at D
      clear e0
      have mB := fun i => hB.cell i
      gi_wp2
      refine ⟨trivial, ?_⟩
      refine (callsIn_wide.2 (D.out _)).mono ?_
      rintro e w3 ⟨rfl, hb3⟩
      replace hJs := HJ.out _ _ _ none hJs (grown_below' hb3 none) (fun r e => by cases e)
      gi_wp2
      go_end0
      exact ⟨⟨_, rfl⟩, .inl ⟨_, rfl, hJs⟩⟩
set_option maxHeartbeats 1000000 in
/-- enter.Leaves: the three arguments are boxed; the function value captures the boxes. -/
theorem leaves_in (n : Nat) (s t f l p th : Int) (sl : Bool) (w : World) :
    CallsIn Fence.wide n Tryd.prog 30 #[.agg #[.int .i64 s, .int .i64 t, .int .i64 f, .int .i64 l, .int .i64 p], .int .i64 th, .bool sl] w fun e w' => e = .returned (.func (.func 65) #[] #[.pointer (some ⟨w.heap.size, 0, none⟩), .pointer (some ⟨w.heap.size + 1, 0, none⟩), .pointer (some ⟨w.heap.size + 1 + 1, 0, none⟩)]) ∧ w' = ((w.alloc (.cells #[.int .i64 s, .int .i64 t, .int .i64 f, .int .i64 l, .int .i64 p] 27)).alloc (.cells #[.int .i64 th] 3)).alloc (.cells #[.bool sl] 4) := by
  refine callsIn_of_wp Tryd.func30 rfl trivial ?_ rfl
  simp only [Tryd.ntmps30, List.size_toArray, List.length_cons, List.length_nil, Nat.reduceAdd, Nat.reduceSub, Array.replicate_succ, Array.replicate_zero, List.push_toArray, List.append_toArray, List.nil_append, List.cons_append]
  gi_wp2
  go_ret
  exact ⟨rfl, rfl⟩
/-- What a leaving thread's automaton answers, in one word: left at a position, to the layout s' .., of mo steps. -/
structure LvSpec (s' t' f' l' p' th' s t f l p th : Int) (sl : Bool) (mo : Nat) (a : Nat → Int) : Prop where
  hmo : mo ≤ 3
  new : ∀ w2, Calls Tryd.prog 31 #[.agg #[.int .i64 s', .int .i64 t', .int .i64 f', .int .i64 l', .int .i64 p'], .int .i64 th', .bool sl] w2 fun e w' => e = .returned (.agg (lvA s t f l p th mo mo)) ∧ Below w2.heap.size w2 w'
  want : ∀ k, k < mo → ∀ w2, Calls Tryd.prog 19 #[.agg (lvA s t f l p th ((mo - k : Nat) : Int) mo)] w2 fun e w' => e = .returned (A2 (a k)) ∧ Below w2.heap.size w2 w'
  took : ∀ k, k < mo → ∀ g w2, Calls Tryd.prog 32 #[.agg (lvA s t f l p th ((mo - k : Nat) : Int) mo), .int .u64 g] w2 fun e w' => e = .returned (.agg (lvA s t f l p th ((mo - (k + 1) : Nat) : Int) mo)) ∧ Below w2.heap.size w2 w'
  done : ∀ (j : Nat) w2, Calls Tryd.prog 18 #[.agg (lvA s t f l p th (j : Int) mo)] w2 fun e w' => e = .returned (.bool (decide (j = 0))) ∧ Below w2.heap.size w2 w'
theorem leaves_stops {s' t' f' l' p' th' s t f l p th : Int} {sl : Bool} {mo : Nat} {a : Nat → Int} (h : LvSpec s' t' f' l' p' th' s t f l p th sl mo a) (n : Nat) (hn : 1 ≤ n) (Bl Bt Bs : Nat) (w : World)
    (bl : Blk w Bl 27 #[.int .i64 s', .int .i64 t', .int .i64 f', .int .i64 l', .int .i64 p']) (bt : Blk w Bt 3 #[.int .i64 th']) (bs : Blk w Bs 4 #[.bool sl]) :
    SeqStopsK Fence.wide n Tryd.prog 65 #[.pointer (some ⟨Bl, 0, none⟩), .pointer (some ⟨Bt, 0, none⟩), .pointer (some ⟨Bs, 0, none⟩)] (fun x : Int => #[A2 x]) (KeepTy 46) (fun ys => ys = aL a mo) (fun _ => True) 3 w := fun ld J Jx W hW hJ _ hY h0 =>
  leaves1_in n hn ld Bl Bt Bs s' t' f' l' p' th' s t f l p th sl mo h.hmo a J Jx W hJ h.new h.want h.took h.done hY (bl.below hW bl.lt) (bt.below hW bt.lt) (bs.below hW bs.lt) h0
end Go.Proofs.YthmkhcmgpkngmaaDoor
