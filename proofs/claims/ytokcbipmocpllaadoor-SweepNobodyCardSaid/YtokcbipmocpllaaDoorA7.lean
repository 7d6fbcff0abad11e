/-
  Chapter 19's example.
-/
import Derived.Test.YtokcbipmocpllaaDoorA6
import Derived.BigQuiet
import Derived.Deep.QuietTactic
import Derived.ProofKit
import Derived.Deep.Slices
import Derived.Deep.Fields
namespace Go.Proofs.YtokcbipmocpllaaDoor
open Go.RowKit

theorem ask_one : askL 6 [((65538 : Int), (4 : Int))] (askOver [((65538 : Int), (4 : Int))] ([0] ++ [0]) 6) = [((65538 : Int), (4 : Int))] ∧ ([] : List Int) ++ askOver [((65538 : Int), (4 : Int))] ([0] ++ [0]) 6 = [] ∧ askTd [((65538 : Int), (4 : Int))] [] ([0] ++ [0]) 6 = [(65538, false)] := by decide
def AwP (k2 p0 p1 p2 p3 p4 pk2 sl2 hd2 tr2 : Int) : Prop := k2 = 3 ∧ p0 = 3 ∧ p1 = 1 ∧ p2 = 4 ∧ p3 = 1 ∧ p4 = 3 ∧ pk2 = 1 ∧ sl2 = 2 ∧ hd2 = 0 ∧ tr2 = 0
set_option maxHeartbeats 4000000 in
theorem awake_took3 (v : Value) (w : World) (hv : SwV w 3 1 4 1 3 2 6 [((65538 : Int), (4 : Int))] [] [0] [] 0 0 0 0 0 0 0 0 0 [] 0 v) :
    Calls Tryd.prog 20 #[v, .int .u64 0] w fun e w' => (∃ v2, e = .returned v2 ∧ SwV w' 3 1 4 1 3 3 6 [((65538 : Int), (4 : Int))] [] ([0] ++ [0]) [(65538, false)] 3 1 4 1 3 1 2 0 0 [] 0 v2) ∧ Below w.heap.size w w' := by
  refine (stook_2y 3 1 4 1 3 6 [((65538 : Int), (4 : Int))] [] [0] [] 0 0 0 0 0 0 0 0 0 [] 0 0 v w hv (by decide) ⟨by decide, by decide⟩ (by decide) (by decide) (fun x hx => by rw [List.mem_singleton] at hx; subst hx; exact ⟨⟨by decide, by decide⟩, ⟨by decide, by decide⟩⟩) (fun x hx => absurd hx (by simp)) (fun x hx => by rw [List.mem_singleton] at hx; subst hx; exact ⟨by decide, by decide⟩) ⟨by decide, by decide⟩ ⟨by decide, by decide⟩ AwP (fun v w1 h => ?_) (by decide)).mono ?_
  · rw [ask_one.1, ask_one.2.1, ask_one.2.2] at h ⊢
    refine (snext_one 3 1 4 1 3 2 6 [((65538 : Int), (4 : Int))] [] ([0] ++ [0]) [] 0 0 0 0 0 0 0 0 0 [] 0 65538 false v w1 h ⟨by decide, by decide⟩ ⟨by decide, by decide⟩ ⟨by decide, by decide⟩ ⟨by decide, by decide⟩ (by decide) (by decide)).mono ?_
    rintro e w' ⟨⟨v', rfl, h'⟩, hb⟩
    exact ⟨⟨v', 3, 3, 1, 4, 1, 3, 1, 65538 % 65536, 0, 0, rfl, h', rfl, rfl, rfl, rfl, rfl, rfl, rfl, rfl, rfl, rfl⟩, hb⟩
  · rintro e w' ⟨⟨v2, k2, p0, p1, p2, p3, p4, pk2, sl2, hd2, tr2, rfl, h', a0, a1, a2, a3, a4, a5, a6, a7, a8, a9⟩, hb⟩
    subst a0 a1 a2 a3 a4 a5 a6 a7 a8 a9
    rw [ask_one.1, ask_one.2.1, ask_one.2.2] at h'
    exact ⟨⟨v2, rfl, h'⟩, hb⟩
def Aw0 (w : World) (v : Value) : Prop := SwV w 3 1 4 1 3 1 0 [((65538 : Int), (4 : Int))] [] [] [] 0 0 0 0 0 0 0 0 0 [] 0 v
theorem Aw0.below {w w' : World} {v : Value} {B : Nat} (h : Aw0 w v) (hB : w.heap.size ≤ B) (hb : Below B w w') : Aw0 w' v := SwV.below h hB hb
def Aw1 (w : World) (v : Value) : Prop := SwV w 3 1 4 1 3 2 6 [((65538 : Int), (4 : Int))] [] [] [] 0 0 0 0 0 0 0 0 0 [] 0 v
theorem Aw1.below {w w' : World} {v : Value} {B : Nat} (h : Aw1 w v) (hB : w.heap.size ≤ B) (hb : Below B w w') : Aw1 w' v := SwV.below h hB hb
def Aw2 (w : World) (v : Value) : Prop := SwV w 3 1 4 1 3 2 6 [((65538 : Int), (4 : Int))] [] [0] [] 0 0 0 0 0 0 0 0 0 [] 0 v
theorem Aw2.below {w w' : World} {v : Value} {B : Nat} (h : Aw2 w v) (hB : w.heap.size ≤ B) (hb : Below B w w') : Aw2 w' v := SwV.below h hB hb
def Aw3 (w : World) (v : Value) : Prop := SwV w 3 1 4 1 3 3 6 [((65538 : Int), (4 : Int))] [] ([0] ++ [0]) [(65538, false)] 3 1 4 1 3 1 2 0 0 [] 0 v
theorem Aw3.below {w w' : World} {v : Value} {B : Nat} (h : Aw3 w v) (hB : w.heap.size ≤ B) (hb : Below B w w') : Aw3 w' v := SwV.below h hB hb
def Aw4 (w : World) (v : Value) : Prop := SwV w 3 1 4 1 3 0 5 [((65538 : Int), (4 : Int))] [] [] [] 0 0 0 0 0 0 0 0 0 [] 0 v
theorem Aw4.below {w w' : World} {v : Value} {B : Nat} (h : Aw4 w v) (hB : w.heap.size ≤ B) (hb : Below B w w') : Aw4 w' v := SwV.below h hB hb
set_option maxHeartbeats 4000000 in
theorem ak1 (v : Value) (w : World) (hv : Aw0 w v) : Calls Tryd.prog 20 #[v, .int .u64 6] w fun e w' => (∃ v2, e = .returned v2 ∧ Aw1 w' v2) ∧ Below w.heap.size w w' :=
  stook_1r 3 1 4 1 3 0 [((65538 : Int), (4 : Int))] [] [] [] 0 0 0 0 0 0 0 0 0 [] 0 6 v w hv (by decide) (fun x hx => by rw [List.mem_singleton] at hx; subst hx; exact ⟨by decide, by decide⟩) ⟨by decide, by decide⟩ (by decide)
set_option maxHeartbeats 4000000 in
theorem ak2 (v : Value) (w : World) (hv : Aw1 w v) : Calls Tryd.prog 20 #[v, .int .u64 0] w fun e w' => (∃ v2, e = .returned v2 ∧ Aw2 w' v2) ∧ Below w.heap.size w w' :=
  stook_2n 3 1 4 1 3 6 [((65538 : Int), (4 : Int))] [] [] [] 0 0 0 0 0 0 0 0 0 [] 0 0 v w hv (by decide) ⟨by decide, by decide⟩ (by decide)
set_option maxHeartbeats 4000000 in
theorem ak3 (v : Value) (w : World) (hv : Aw2 w v) : Calls Tryd.prog 20 #[v, .int .u64 0] w fun e w' => (∃ v2, e = .returned v2 ∧ Aw3 w' v2) ∧ Below w.heap.size w w' :=
  awake_took3 v w hv
set_option maxHeartbeats 4000000 in
theorem ak5 (v : Value) (w : World) (hv : Aw0 w v) : Calls Tryd.prog 20 #[v, .int .u64 5] w fun e w' => (∃ v2, e = .returned v2 ∧ Aw4 w' v2) ∧ Below w.heap.size w w' :=
  stook_1n 3 1 4 1 3 0 [((65538 : Int), (4 : Int))] [] [] 0 0 0 0 0 0 0 0 0 [] 0 5 v w hv (by decide) (fun x hx => by rw [List.mem_singleton] at hx; subst hx; exact ⟨by decide, by decide⟩) ⟨by decide, by decide⟩ (by decide)
set_option maxHeartbeats 4000000 in
theorem akw (v : Value) (w : World) (hv : Aw3 w v) : Calls Tryd.prog 22 #[v] w fun e w' => e = .returned (.agg #[.int .i64 1, .int .i64 2, .int .u64 0, .int .u64 0]) ∧ Below w.heap.size w w' := by
  obtain ⟨B1, c1, B2, c2, B3, c3, B4, c4, B5, c5, rfl, t1, t2, t3, t4, t5⟩ := hv
  exact swant_3 _ _ _ _ _ _ _ _ _ _ _ _ 3 1 4 1 3 (1, 2, 0, 0) w (by unfold PsIn PsOk W64; decide) (.inr ⟨by decide, by decide, by decide⟩)
theorem akd (v : Value) (w : World) (hv : Aw4 w v) : Calls Tryd.prog 19 #[v] w fun e w' => e = .returned (.bool true) ∧ Below w.heap.size w w' := by
  obtain ⟨B1, c1, B2, c2, B3, c3, B4, c4, B5, c5, rfl, t1, t2, t3, t4, t5⟩ := hv
  exact sdone_any _ _ _ _ _ _ _ _ _ _ _ _ _ _ _ _ _ _ _ _ _ 0 w
theorem akn (v : Value) (w : World) (hv : Aw0 w v) : Calls Tryd.prog 24 #[v] w fun e w' => (∃ A3 c3 A4 c4, e = .returned (.agg #[.slice A3 1 c3, .slice A4 0 c4]) ∧ Tr w' 31 2 (.slice A3 1 c3) 1 (rec2 [((65538 : Int), (4 : Int))]) ∧ Tr w' 29 1 (.slice A4 0 c4) 0 (ints .u64 [])) ∧ Below w.heap.size w w' := by
  obtain ⟨B1, c1, B2, c2, B3, c3, B4, c4, B5, c5, rfl, t1, t2, t3, t4, t5⟩ := hv
  exact snow_any _ _ _ _ _ _ _ _ _ _ _ _ _ _ _ _ _ _ _ _ B1 1 c1 B2 0 c2 [((65538 : Int), (4 : Int))] [] w (by decide) (by decide) t1 t2
theorem aks (A3 A4 : Option Addr) (c3 c4 : Nat) (w : World) (t1 : Tr w 31 2 (.slice A3 1 c3) 1 (rec2 [((65538 : Int), (4 : Int))])) (t2 : Tr w 29 1 (.slice A4 0 c4) 0 (ints .u64 [])) : Calls Tryd.prog 9 #[.agg #[.slice A3 1 c3, .slice A4 0 c4]] w fun e w' => (∃ A5 c5, e = .returned (.slice A5 1 c5)) ∧ Below w.heap.size w w' := by
  refine (lslots_any A3 1 c3 [((65538 : Int), (4 : Int))] (.slice A4 0 c4) [] w (by decide) (by decide) t1.reads (fun x hx => by rw [List.mem_singleton] at hx; subst hx; exact ⟨by decide, by decide⟩) (fun x hx => absurd hx (by simp)) t2.sl).mono ?_
  rintro e w' ⟨⟨A5, m, c5, rfl, rfl, _⟩, hb⟩
  exact ⟨⟨A5, c5, rfl⟩, hb⟩
set_option linter.unusedSimpArgs false in
set_option maxRecDepth 100000 in
set_option maxHeartbeats 4000000 in
theorem awake19 (w : World) (hT : Tab w) : Calls Tryd.prog 6 #[] w fun e w' => e = .returned (.bool true) ∧ Below w.heap.size w w' := by
  have N := hide (new_yes 3 1 4 1 3 w hT (by decide))
  have S1 := hide (fun A (w2 : World) (h : Reads w2 w2.heap.size 2 A 1 (rec2 [((65538 : Int), (4 : Int))])) => snew_yes 3 1 4 1 3 (laySize 3 1 4) A 1 1 [((65538 : Int), (4 : Int))] (.slice none 0 0) [] w2 (by decide) (by decide) h (Sl.nil _ _) (fun w3 => size_any 3 1 4 1 3 w3 (by omega) (by omega) (by omega)) (by decide))
  clear hT
  go_enter Tryd.func6, Tryd.ntmps6
  go_wp2_with fail
  refine N.out.mono ?_
  rintro e w1 ⟨rfl, hb1⟩
  go_wp2_with fail
  have br := Blk.new (w1.alloc (.cells #[.int .i64 3, .int .i64 1, .int .i64 4, .int .i64 1, .int .i64 3] 44)) 31 #[.int .u64 65538, .int .u64 4]
  replace hb1 := (hb1.alloc hb1.size (.cells #[.int .i64 3, .int .i64 1, .int .i64 4, .int .i64 1, .int .i64 3] 44)).alloc (by rw [World.size_alloc]; have := hb1.size; omega) (.cells #[.int .u64 65538, .int .u64 4] 31)
  rw [World.size_alloc] at br
  have hr := (Reads.blk br 1 2 rfl).more br.lt
  clear br
  refine (S1.out _ _ hr).mono ?_
  rintro e w2 ⟨⟨A1, c1, A2, c2, rfl, o1, o2⟩, hb2⟩
  replace hb1 := hb1.trans (hb2.mono hb1.size)
  clear hr hb2 S1 N
  have t1 : Tr w2 31 2 (.slice A1 1 c1) 1 (rec2 [((65538 : Int), (4 : Int))]) := Tr.of_own o1
  have t2 : Tr w2 29 1 (.slice A2 0 c2) 0 (ints .u64 []) := Tr.of_own o2
  have bo := Blk.new w2 51 #[.slice none 0 0, .slice none 0 0, .int .i64 0, .int .i64 0, .int .i64 0, .int .i64 0, .int .i64 0, .int .i64 0, .int .u64 0, .slice none 0 0, .slice none 0 0, .int .i64 0, .int .i64 0, .int .i64 0, .int .i64 0, .int .i64 0, .int .i64 0, .int .i64 0, .int .u64 0, .int .i64 0, .slice none 0 0, .int .i64 0]
  have B0 := hb1.alloc hb1.size (.cells #[.slice none 0 0, .slice none 0 0, .int .i64 0, .int .i64 0, .int .i64 0, .int .i64 0, .int .i64 0, .int .i64 0, .int .u64 0, .slice none 0 0, .slice none 0 0, .int .i64 0, .int .i64 0, .int .i64 0, .int .i64 0, .int .i64 0, .int .i64 0, .int .i64 0, .int .u64 0, .int .i64 0, .slice none 0 0, .int .i64 0] 51)
  replace t1 := t1.alloc (.cells #[.slice none 0 0, .slice none 0 0, .int .i64 0, .int .i64 0, .int .i64 0, .int .i64 0, .int .i64 0, .int .i64 0, .int .u64 0, .slice none 0 0, .slice none 0 0, .int .i64 0, .int .i64 0, .int .i64 0, .int .i64 0, .int .i64 0, .int .i64 0, .int .i64 0, .int .u64 0, .int .i64 0, .slice none 0 0, .int .i64 0] 51)
  replace t2 := t2.alloc (.cells #[.slice none 0 0, .slice none 0 0, .int .i64 0, .int .i64 0, .int .i64 0, .int .i64 0, .int .i64 0, .int .i64 0, .int .u64 0, .slice none 0 0, .slice none 0 0, .int .i64 0, .int .i64 0, .int .i64 0, .int .i64 0, .int .i64 0, .int .i64 0, .int .i64 0, .int .u64 0, .int .i64 0, .slice none 0 0, .int .i64 0] 51)
  have hg : w.heap.size ≤ w2.heap.size := hb1.size
  clear hb1 o1 o2
  go_wp2_with (first | (refine wpList_store_mid rfl 51 (.tmp 2) (.tmp 9) rfl w2.heap.size 0 #[.slice A1 1 c1, .slice A2 0 c2, .int .i64 3, .int .i64 1, .int .i64 4, .int .i64 1, .int .i64 3, .int .i64 1, .int .u64 0, .slice none 0 0, .slice none 0 0, .int .i64 0, .int .i64 0, .int .i64 0, .int .i64 0, .int .i64 0, .int .i64 0, .int .i64 0, .int .u64 0, .int .i64 0, .slice none 0 0, .int .i64 0] (by rfl) (by rfl) (bo.there rfl) (by kernel_rfl) (by kernel_rfl) ?_; replace t1 := (show Tr ((w2.alloc (.cells #[.slice none 0 0, .slice none 0 0, .int .i64 0, .int .i64 0, .int .i64 0, .int .i64 0, .int .i64 0, .int .i64 0, .int .u64 0, .slice none 0 0, .slice none 0 0, .int .i64 0, .int .i64 0, .int .i64 0, .int .i64 0, .int .i64 0, .int .i64 0, .int .i64 0, .int .u64 0, .int .i64 0, .slice none 0 0, .int .i64 0] 51)).setCells w2.heap.size 0 [.slice A1 1 c1, .slice A2 0 c2, .int .i64 3, .int .i64 1, .int .i64 4, .int .i64 1, .int .i64 3, .int .i64 1, .int .u64 0, .slice none 0 0, .slice none 0 0, .int .i64 0, .int .i64 0, .int .i64 0, .int .i64 0, .int .i64 0, .int .i64 0, .int .i64 0, .int .u64 0, .int .i64 0, .slice none 0 0, .int .i64 0]) _ _ _ _ _ from by rw [putL_eq]; exact Tr.putL (by decide) _ 0 bo t1); replace t2 := (show Tr ((w2.alloc (.cells #[.slice none 0 0, .slice none 0 0, .int .i64 0, .int .i64 0, .int .i64 0, .int .i64 0, .int .i64 0, .int .i64 0, .int .u64 0, .slice none 0 0, .slice none 0 0, .int .i64 0, .int .i64 0, .int .i64 0, .int .i64 0, .int .i64 0, .int .i64 0, .int .i64 0, .int .u64 0, .int .i64 0, .slice none 0 0, .int .i64 0] 51)).setCells w2.heap.size 0 [.slice A1 1 c1, .slice A2 0 c2, .int .i64 3, .int .i64 1, .int .i64 4, .int .i64 1, .int .i64 3, .int .i64 1, .int .u64 0, .slice none 0 0, .slice none 0 0, .int .i64 0, .int .i64 0, .int .i64 0, .int .i64 0, .int .i64 0, .int .i64 0, .int .i64 0, .int .u64 0, .int .i64 0, .slice none 0 0, .int .i64 0]) _ _ _ _ _ from by rw [putL_eq]; exact Tr.putL (by decide) _ 0 bo t2); replace B0 := (show Below w.heap.size w ((w2.alloc (.cells #[.slice none 0 0, .slice none 0 0, .int .i64 0, .int .i64 0, .int .i64 0, .int .i64 0, .int .i64 0, .int .i64 0, .int .u64 0, .slice none 0 0, .slice none 0 0, .int .i64 0, .int .i64 0, .int .i64 0, .int .i64 0, .int .i64 0, .int .i64 0, .int .i64 0, .int .u64 0, .int .i64 0, .slice none 0 0, .int .i64 0] 51)).setCells w2.heap.size 0 [.slice A1 1 c1, .slice A2 0 c2, .int .i64 3, .int .i64 1, .int .i64 4, .int .i64 1, .int .i64 3, .int .i64 1, .int .u64 0, .slice none 0 0, .slice none 0 0, .int .i64 0, .int .i64 0, .int .i64 0, .int .i64 0, .int .i64 0, .int .i64 0, .int .i64 0, .int .u64 0, .int .i64 0, .slice none 0 0, .int .i64 0]) from by rw [putL_eq]; exact Below.putL (by omega) _ _ 0 B0); replace bo := (show Blk ((w2.alloc (.cells #[.slice none 0 0, .slice none 0 0, .int .i64 0, .int .i64 0, .int .i64 0, .int .i64 0, .int .i64 0, .int .i64 0, .int .u64 0, .slice none 0 0, .slice none 0 0, .int .i64 0, .int .i64 0, .int .i64 0, .int .i64 0, .int .i64 0, .int .i64 0, .int .i64 0, .int .u64 0, .int .i64 0, .slice none 0 0, .int .i64 0] 51)).setCells w2.heap.size 0 [.slice A1 1 c1, .slice A2 0 c2, .int .i64 3, .int .i64 1, .int .i64 4, .int .i64 1, .int .i64 3, .int .i64 1, .int .u64 0, .slice none 0 0, .slice none 0 0, .int .i64 0, .int .i64 0, .int .i64 0, .int .i64 0, .int .i64 0, .int .i64 0, .int .i64 0, .int .u64 0, .int .i64 0, .slice none 0 0, .int .i64 0]) w2.heap.size 51 #[.slice A1 1 c1, .slice A2 0 c2, .int .i64 3, .int .i64 1, .int .i64 4, .int .i64 1, .int .i64 3, .int .i64 1, .int .u64 0, .slice none 0 0, .slice none 0 0, .int .i64 0, .int .i64 0, .int .i64 0, .int .i64 0, .int .i64 0, .int .i64 0, .int .i64 0, .int .u64 0, .int .i64 0, .slice none 0 0, .int .i64 0] from by rw [putL_eq]; have h9 := Blk.putL [.slice A1 1 c1, .slice A2 0 c2, .int .i64 3, .int .i64 1, .int .i64 4, .int .i64 1, .int .i64 3, .int .i64 1, .int .u64 0, .slice none 0 0, .slice none 0 0, .int .i64 0, .int .i64 0, .int .i64 0, .int .i64 0, .int .i64 0, .int .i64 0, .int .i64 0, .int .u64 0, .int .i64 0, .slice none 0 0, .int .i64 0] _ _ 0 bo; simpa only [setL, List.setIfInBounds_toArray, List.set_cons_zero, List.set_cons_succ] using h9); generalize hgw : w2.heap.size = gs at *; clear hgw; generalize (w2.alloc (.cells #[.slice none 0 0, .slice none 0 0, .int .i64 0, .int .i64 0, .int .i64 0, .int .i64 0, .int .i64 0, .int .i64 0, .int .u64 0, .slice none 0 0, .slice none 0 0, .int .i64 0, .int .i64 0, .int .i64 0, .int .i64 0, .int .i64 0, .int .i64 0, .int .i64 0, .int .u64 0, .int .i64 0, .slice none 0 0, .int .i64 0] 51)).setCells gs 0 [.slice A1 1 c1, .slice A2 0 c2, .int .i64 3, .int .i64 1, .int .i64 4, .int .i64 1, .int .i64 3, .int .i64 1, .int .u64 0, .slice none 0 0, .slice none 0 0, .int .i64 0, .int .i64 0, .int .i64 0, .int .i64 0, .int .i64 0, .int .i64 0, .int .i64 0, .int .u64 0, .int .i64 0, .slice none 0 0, .int .i64 0] = w3 at *; have hv0 : Aw0 w3 (.agg #[.slice A1 1 c1, .slice A2 0 c2, .int .i64 3, .int .i64 1, .int .i64 4, .int .i64 1, .int .i64 3, .int .i64 1, .int .u64 0, .slice none 0 0, .slice none 0 0, .int .i64 0, .int .i64 0, .int .i64 0, .int .i64 0, .int .i64 0, .int .i64 0, .int .i64 0, .int .u64 0, .int .i64 0, .slice none 0 0, .int .i64 0]) := ⟨A1, c1, A2, c2, none, 0, none, 0, none, 0, rfl, t1, t2, Tr.nil _ _ _, Tr.nil _ _ _, Tr.nil _ _ _⟩; clear t1 t2) | (refine wpList_load_mid rfl 51 (.tmp 2) rfl gs 0 (by rfl) [.slice A1 1 c1, .slice A2 0 c2, .int .i64 3, .int .i64 1, .int .i64 4, .int .i64 1, .int .i64 3, .int .i64 1, .int .u64 0, .slice none 0 0, .slice none 0 0, .int .i64 0, .int .i64 0, .int .i64 0, .int .i64 0, .int .i64 0, .int .i64 0, .int .i64 0, .int .u64 0, .int .i64 0, .slice none 0 0, .int .i64 0] _ bo.range Tryd.underlying51 rfl (by kernel_rfl) ?_) | (refine wpList_load_midG (by rfl) 51 (.tmp 2) rfl gs 0 (by rfl) [.slice A1 1 c1, .slice A2 0 c2, .int .i64 3, .int .i64 1, .int .i64 4, .int .i64 1, .int .i64 3, .int .i64 1, .int .u64 0, .slice none 0 0, .slice none 0 0, .int .i64 0, .int .i64 0, .int .i64 0, .int .i64 0, .int .i64 0, .int .i64 0, .int .i64 0, .int .u64 0, .int .i64 0, .slice none 0 0, .int .i64 0] _ bo.range Tryd.underlying51 rfl (by kernel_rfl) ?_))
  refine (ak1 _ _ hv0).mono ?_
  rintro e w4 ⟨⟨u1, rfl, hv1⟩, hb⟩
  replace hv0 := hv0.below (Nat.le_refl _) hb
  replace bo := bo.below hb bo.lt
  replace B0 := B0.trans (hb.mono B0.size)
  clear hb
  go_wp2_with (first | (refine wpList_load_midG (by rfl) 51 (.tmp 2) rfl gs 0 (by rfl) [.slice A1 1 c1, .slice A2 0 c2, .int .i64 3, .int .i64 1, .int .i64 4, .int .i64 1, .int .i64 3, .int .i64 1, .int .u64 0, .slice none 0 0, .slice none 0 0, .int .i64 0, .int .i64 0, .int .i64 0, .int .i64 0, .int .i64 0, .int .i64 0, .int .i64 0, .int .u64 0, .int .i64 0, .slice none 0 0, .int .i64 0] _ bo.range Tryd.underlying51 rfl (by kernel_rfl) ?_))
  refine (ak2 _ _ hv1).mono ?_
  rintro e w5 ⟨⟨u2, rfl, hv2⟩, hb⟩
  replace hv0 := hv0.below (Nat.le_refl _) hb
  replace bo := bo.below hb bo.lt
  replace B0 := B0.trans (hb.mono B0.size)
  clear hb
  go_wp2_with (first | (refine wpList_load_midG (by rfl) 51 (.tmp 2) rfl gs 0 (by rfl) [.slice A1 1 c1, .slice A2 0 c2, .int .i64 3, .int .i64 1, .int .i64 4, .int .i64 1, .int .i64 3, .int .i64 1, .int .u64 0, .slice none 0 0, .slice none 0 0, .int .i64 0, .int .i64 0, .int .i64 0, .int .i64 0, .int .i64 0, .int .i64 0, .int .i64 0, .int .u64 0, .int .i64 0, .slice none 0 0, .int .i64 0] _ bo.range Tryd.underlying51 rfl (by kernel_rfl) ?_))
  refine (ak3 _ _ hv2).mono ?_
  rintro e w6 ⟨⟨u3, rfl, hv3⟩, hb⟩
  replace hv0 := hv0.below (Nat.le_refl _) hb
  replace bo := bo.below hb bo.lt
  replace B0 := B0.trans (hb.mono B0.size)
  clear hb
  go_wp2_with (first | (refine wpList_load_midG (by rfl) 51 (.tmp 2) rfl gs 0 (by rfl) [.slice A1 1 c1, .slice A2 0 c2, .int .i64 3, .int .i64 1, .int .i64 4, .int .i64 1, .int .i64 3, .int .i64 1, .int .u64 0, .slice none 0 0, .slice none 0 0, .int .i64 0, .int .i64 0, .int .i64 0, .int .i64 0, .int .i64 0, .int .i64 0, .int .i64 0, .int .u64 0, .int .i64 0, .slice none 0 0, .int .i64 0] _ bo.range Tryd.underlying51 rfl (by kernel_rfl) ?_))
  refine (akw _ _ hv3).mono ?_
  rintro e w7 ⟨rfl, hb⟩
  replace hv0 := hv0.below (Nat.le_refl _) hb
  replace bo := bo.below hb bo.lt
  replace B0 := B0.trans (hb.mono B0.size)
  clear hb hv1 hv2 hv3
  go_wp2_with (first | (refine wpList_load_midG (by rfl) 51 (.tmp 2) rfl gs 0 (by rfl) [.slice A1 1 c1, .slice A2 0 c2, .int .i64 3, .int .i64 1, .int .i64 4, .int .i64 1, .int .i64 3, .int .i64 1, .int .u64 0, .slice none 0 0, .slice none 0 0, .int .i64 0, .int .i64 0, .int .i64 0, .int .i64 0, .int .i64 0, .int .i64 0, .int .i64 0, .int .u64 0, .int .i64 0, .slice none 0 0, .int .i64 0] _ bo.range Tryd.underlying51 rfl (by kernel_rfl) ?_))
  refine (ak5 _ _ hv0).mono ?_
  rintro e w8 ⟨⟨u5, rfl, hv5⟩, hb⟩
  replace hv0 := hv0.below (Nat.le_refl _) hb
  replace bo := bo.below hb bo.lt
  replace B0 := B0.trans (hb.mono B0.size)
  clear hb
  go_wp2_with fail
  refine (akd _ _ hv5).mono ?_
  rintro e w9 ⟨rfl, hb⟩
  replace hv0 := hv0.below (Nat.le_refl _) hb
  replace bo := bo.below hb bo.lt
  replace B0 := B0.trans (hb.mono B0.size)
  clear hb hv5
  go_wp2_with (first | (refine wpList_load_midG (by rfl) 51 (.tmp 2) rfl gs 0 (by rfl) [.slice A1 1 c1, .slice A2 0 c2, .int .i64 3, .int .i64 1, .int .i64 4, .int .i64 1, .int .i64 3, .int .i64 1, .int .u64 0, .slice none 0 0, .slice none 0 0, .int .i64 0, .int .i64 0, .int .i64 0, .int .i64 0, .int .i64 0, .int .i64 0, .int .i64 0, .int .u64 0, .int .i64 0, .slice none 0 0, .int .i64 0] _ bo.range Tryd.underlying51 rfl (by kernel_rfl) ?_))
  refine (akn _ _ hv0).mono ?_
  rintro e w10 ⟨⟨A3, c3, A4, c4, rfl, t1, t2⟩, hb⟩
  replace B0 := B0.trans (hb.mono B0.size)
  clear hb hv0 bo
  go_wp2_with fail
  refine (aks _ _ _ _ _ t1 t2).mono ?_
  rintro e w11 ⟨⟨A5, c5, rfl⟩, hb⟩
  replace B0 := B0.trans (hb.mono B0.size)
  clear hb t1 t2
  go_wp2_with fail
  go_ret
  exact ⟨rfl, B0⟩
end Go.Proofs.YtokcbipmocpllaaDoor

/-
  gleaningref03.Words and gleaningref10.Ints.
-/
namespace Go.Proofs.YtokcbipmocpllaaDoor
open Go.RowKit

def SlI (w : World) (B : Nat) (v : Value) (xs : List Int) : Prop := ∃ A c, v = .slice A xs.length c ∧ xs.length ≤ c ∧ c ≤ 9223372036854775807 ∧ Reads w B 1 A xs.length (ints .i64 xs)
theorem SlI.below {w w' : World} {B : Nat} {v : Value} {xs : List Int} (h : SlI w B v xs) (hb : Below B w w') : SlI w' B v xs := by
  obtain ⟨A, c, h1, h2, h3, h4⟩ := h
  exact ⟨A, c, h1, h2, h3, h4.below hb⟩
theorem SlI.more {w : World} {B B' : Nat} {v : Value} {xs : List Int} (h : SlI w B v xs) (hB : B ≤ B') : SlI w B' v xs := by
  obtain ⟨A, c, h1, h2, h3, h4⟩ := h
  exact ⟨A, c, h1, h2, h3, h4.1, fun hn => by obtain ⟨a, h5, h6, h7⟩ := h4.2 hn; exact ⟨a, h5, Nat.lt_of_lt_of_le h6 hB, h7⟩⟩
theorem SlI.of_own {w : World} {B : Nat} {e : TypeId} {A : Option Addr} {c : Nat} {xs : List Int} (h : w.ownsRow B e 1 (.slice A xs.length c) xs.length (ints .i64 xs)) : SlI w w.heap.size (.slice A xs.length c) xs := by
  have hr := Reads.of_own h
  rcases h.2 with ⟨h1, h2⟩ | ⟨g, cap, cur, hv, _, _, hc1, hc2, _⟩
  · injection h1 with h3 h4 h5
    exact ⟨A, c, rfl, by omega, by omega, hr⟩
  · injection hv with h3 h4 h5
    unfold maxLen at hc2
    exact ⟨A, c, rfl, by omega, by omega, hr⟩
def eqTo (l m : List Int) (k : Nat) : Prop := ∀ i, i < k → l.getD i 0 = m.getD i 0
theorem eq_of_eqTo {l m : List Int} (hl : l.length = m.length) (h : eqTo l m l.length) : l = m := by
  apply List.ext_getElem hl
  intro i h1 h2
  have := h i h1
  simpa [List.getD, h1, h2] using this
theorem ne_of_getD {l m : List Int} {i : Nat} (h : l.getD i 0 ≠ m.getD i 0) : ¬ l = m := fun e => h (by rw [e])

def WordsIn (l m : List Int) (w : World) (i : Value) (wr : World) : Prop := ∃ k : Nat, i = .int .i64 k ∧ k ≤ l.length ∧ eqTo l m k ∧ Below w.heap.size w wr

set_option maxHeartbeats 1000000 in
theorem words_any (v u : Value) (l m : List Int) (w : World) (hl : l.length ≤ 1000000) (_hm : m.length ≤ 1000000) (h : Sl w w.heap.size v l) (h' : Sl w w.heap.size u m) :
    Calls Tryd.prog 28 #[v, u] w fun e w' => e = .returned (.bool (decide (l = m))) ∧ Below w.heap.size w w' := by
  obtain ⟨A, c, rfl, _, _, hr⟩ := h
  obtain ⟨B, d, rfl, _, _, hs⟩ := h'
  by_cases hlm : l.length = m.length
  · have q1 : ((l.length : Int) != (m.length : Int)) = false := by simp [hlm]
    have q2 : ((l.length : Int) == (m.length : Int)) = true := by simp [hlm]
    have HL := hide hlm
    clear hlm
    go_enter Tryd.func28, Tryd.ntmps28
    go_wp2_with fail
    go_loopw [5] (WordsIn l m w) (fun i _ => 10000000 - (intOf i).toNat)
    case atStart => exact ⟨0, rfl, by omega, fun i hi => by omega, Below.refl _ _⟩
    case round =>
      obtain ⟨k, rfl, hk, heq, hb⟩ := hrel
      have HE := hide heq
      clear heq
      by_cases hlt : k < l.length
      · obtain ⟨a, rfl, hkl, z1⟩ := (hr.below hb).word hlt
        have hkm : k < m.length := by have := HL.out; omega
        obtain ⟨a2, rfl, hkl2, z2⟩ := (hs.below hb).word hkm
        have G1 := hide (show l.getD k 0 = l[k] by simp [List.getD, hkl])
        have G2 := hide (show m.getD k 0 = m[k] by simp [List.getD, hkl2])
        generalize l[k] = x at *
        generalize m[k] = y at *
        by_cases hxy : x = y
        · have q3 : (x != y) = false := by simp [hxy]
          have q4 : (x == y) = true := by simp [hxy]
          have Hs := hide (show eqTo l m (k + 1) from fun i hi => by
            rcases Nat.eq_or_lt_of_le (Nat.le_of_lt_succ hi) with h | h
            · rw [h, G1.out, G2.out, hxy]
            · exact HE.out i h)
          clear hxy
          go_wp2_with fail
          go_quiet (fail)
          go_wp2_with fail
          go_roundw
          case rel => exact ⟨k + 1, by go_num, by omega, Hs.out, below_drewN hb _⟩
          case measure => simp [intOf]; omega
        · have q3 : (x != y) = true := by simp [hxy]
          have q4 : (x == y) = false := by simp [hxy]
          have Hn := hide (show decide (l = m) = false by simpa using ne_of_getD (i := k) (by rw [G1.out, G2.out]; exact hxy))
          clear hxy
          go_wp2_with fail
          go_quiet (fail)
          go_wp2_with fail
          go_ret
          exact ⟨by rw [Hn.out]; rfl, below_drewN hb _⟩
      · have Hy := hide (show decide (l = m) = true by simpa using eq_of_eqTo HL.out (fun i hi => HE.out i (by omega)))
        go_wp2_with fail
        go_ret
        exact ⟨by rw [Hy.out]; rfl, hb⟩
  · have q1 : ((l.length : Int) != (m.length : Int)) = true := by simp; omega
    have q2 : ((l.length : Int) == (m.length : Int)) = false := by simp; omega
    have Hn := hide (show decide (l = m) = false by simp; intro e; exact hlm (by rw [e]))
    clear hlm
    go_enter Tryd.func28, Tryd.ntmps28
    go_wp2_with fail
    go_ret
    exact ⟨by rw [Hn.out]; rfl, Below.refl _ _⟩

def IntsIn (l m : List Int) (w : World) (i : Value) (wr : World) : Prop := ∃ k : Nat, i = .int .i64 k ∧ k ≤ l.length ∧ eqTo l m k ∧ Below w.heap.size w wr

set_option maxHeartbeats 1000000 in
theorem ints10_any (v u : Value) (l m : List Int) (w : World) (hl : l.length ≤ 1000000) (_hm : m.length ≤ 1000000) (h : SlI w w.heap.size v l) (h' : SlI w w.heap.size u m) :
    Calls Tryd.prog 8 #[v, u] w fun e w' => e = .returned (.bool (decide (l = m))) ∧ Below w.heap.size w w' := by
  obtain ⟨A, c, rfl, _, _, hr⟩ := h
  obtain ⟨B, d, rfl, _, _, hs⟩ := h'
  by_cases hlm : l.length = m.length
  · have q1 : ((l.length : Int) != (m.length : Int)) = false := by simp [hlm]
    have q2 : ((l.length : Int) == (m.length : Int)) = true := by simp [hlm]
    have HL := hide hlm
    clear hlm
    go_enter Tryd.func8, Tryd.ntmps8
    go_wp2_with fail
    go_loopw [5] (IntsIn l m w) (fun i _ => 10000000 - (intOf i).toNat)
    case atStart => exact ⟨0, rfl, by omega, fun i hi => by omega, Below.refl _ _⟩
    case round =>
      obtain ⟨k, rfl, hk, heq, hb⟩ := hrel
      have HE := hide heq
      clear heq
      by_cases hlt : k < l.length
      · obtain ⟨a, rfl, hkl, z1⟩ := (hr.below hb).word hlt
        have hkm : k < m.length := by have := HL.out; omega
        obtain ⟨a2, rfl, hkl2, z2⟩ := (hs.below hb).word hkm
        have G1 := hide (show l.getD k 0 = l[k] by simp [List.getD, hkl])
        have G2 := hide (show m.getD k 0 = m[k] by simp [List.getD, hkl2])
        generalize l[k] = x at *
        generalize m[k] = y at *
        by_cases hxy : x = y
        · have q3 : (x != y) = false := by simp [hxy]
          have q4 : (x == y) = true := by simp [hxy]
          have Hs := hide (show eqTo l m (k + 1) from fun i hi => by
            rcases Nat.eq_or_lt_of_le (Nat.le_of_lt_succ hi) with h | h
            · rw [h, G1.out, G2.out, hxy]
            · exact HE.out i h)
          clear hxy
          go_wp2_with fail
          go_quiet (fail)
          go_wp2_with fail
          go_roundw
          case rel => exact ⟨k + 1, by go_num, by omega, Hs.out, below_drewN hb _⟩
          case measure => simp [intOf]; omega
        · have q3 : (x != y) = true := by simp [hxy]
          have q4 : (x == y) = false := by simp [hxy]
          have Hn := hide (show decide (l = m) = false by simpa using ne_of_getD (i := k) (by rw [G1.out, G2.out]; exact hxy))
          clear hxy
          go_wp2_with fail
          go_quiet (fail)
          go_wp2_with fail
          go_ret
          exact ⟨by rw [Hn.out]; rfl, below_drewN hb _⟩
      · have Hy := hide (show decide (l = m) = true by simpa using eq_of_eqTo HL.out (fun i hi => HE.out i (by omega)))
        go_wp2_with fail
        go_ret
        exact ⟨by rw [Hy.out]; rfl, hb⟩
  · have q1 : ((l.length : Int) != (m.length : Int)) = true := by simp; omega
    have q2 : ((l.length : Int) == (m.length : Int)) = false := by simp; omega
    have Hn := hide (show decide (l = m) = false by simp; intro e; exact hlm (by rw [e]))
    clear hlm
    go_enter Tryd.func8, Tryd.ntmps8
    go_wp2_with fail
    go_ret
    exact ⟨by rw [Hn.out]; rfl, Below.refl _ _⟩

end Go.Proofs.YtokcbipmocpllaaDoor

/-
  SweepSlots' function, where awake holds.
-/
namespace Go.Proofs.YtokcbipmocpllaaDoor
open Go.RowKit

def SsI (w : World) (cs : Array Value) (hs : List Int) (n0 m : Nat) (o iv : Value) (wr : World) : Prop :=
  ∃ (j n : Nat) (A : Option Addr) (c : Nat), iv = .int .i64 j ∧ j ≤ m ∧ n = n0 + j ∧ o = .slice A n c ∧ wr.ownsRow (w.heap.size + 1) 3 1 (.slice A n c) n (ints .i64 (slL (hs.take n))) ∧ Blk wr w.heap.size 25 cs ∧ Below w.heap.size w wr
set_option maxRecDepth 100000 in
set_option maxHeartbeats 4000000 in
theorem sslots_far (A : Option Addr) (n c : Nat) (v : Value) (ks : List Int) (w : World) (AW0 : ∀ w2, Below w.heap.size w w2 → Calls Tryd.prog 6 #[] w2 fun e w' => e = .returned (.bool true) ∧ Below w2.heap.size w2 w') (hs : Sl w w.heap.size v ks) (hfar : 100 < n ∨ (¬ 100 < n ∧ 100 < ks.length)) :
    Calls Tryd.prog 3 #[.agg #[.slice A n c, v]] w fun e w' => e = .returned (.bool true) ∧ Below w.heap.size w w' := by
  obtain ⟨A2, c2, rfl, q1, q2, q3⟩ := hs
  have HS := hide (show Sl w w.heap.size (.slice A2 ks.length c2) ks from ⟨A2, c2, rfl, q1, q2, q3⟩)
  have AW := hide AW0
  have B0 := (Below.refl w.heap.size w).alloc (Nat.le_refl _) (.cells #[.slice A n c, .slice A2 ks.length c2] 25)
  have bx := Blk.new w 25 #[.slice A n c, .slice A2 ks.length c2]
  have mx := fun i => bx.cell i
  clear q1 q2 q3 HS
  generalize ks.length = m at *
  rcases hfar with h1 | ⟨h1, h2⟩
  · have h1i : (100 : Int) < (n : Int) := by omega
    go_enter Tryd.func3, Tryd.ntmps3
    go_wp2_with fail
    refine (AW.out _ B0).mono ?_
    rintro e w9 ⟨rfl, hb1⟩
    go_wp2_with fail
    go_ret
    exact ⟨rfl, B0.trans (hb1.mono B0.size)⟩
  · have h1i : ¬ (100 : Int) < (n : Int) := by omega
    have h2i : (100 : Int) < (m : Int) := by omega
    go_enter Tryd.func3, Tryd.ntmps3
    go_wp2_with fail
    refine (AW.out _ B0).mono ?_
    rintro e w9 ⟨rfl, hb1⟩
    go_wp2_with fail
    go_ret
    exact ⟨rfl, B0.trans (hb1.mono B0.size)⟩
set_option maxRecDepth 100000 in
set_option maxHeartbeats 4000000 in
theorem sslots_yes (A : Option Addr) (n c : Nat) (r : List (Int × Int)) (v : Value) (ks : List Int) (w : World) (AW0 : ∀ w2, Below w.heap.size w w2 → Calls Tryd.prog 6 #[] w2 fun e w' => e = .returned (.bool true) ∧ Below w2.heap.size w2 w') (hn : n ≤ 100) (hk : ks.length ≤ 100) (hr : Reads w w.heap.size 2 A n (rec2 r)) (hw : ∀ x ∈ r, W64 x.1) (hkw : ∀ z ∈ ks, W64 z) (hs : Sl w w.heap.size v ks) :
    Calls Tryd.prog 3 #[.agg #[.slice A n c, v]] w fun e w' => e = .returned (.bool true) ∧ Below w.heap.size w w' := by
  obtain ⟨i0, hi0, hz0, hs0, hb0⟩ := info_parts infoIS
  have hnl : r.length = n := by have := hr.lenPair; omega
  obtain ⟨A2, c2, rfl, q1, q2, q3⟩ := hs
  have HS := hide (show Sl w w.heap.size (.slice A2 ks.length c2) ks from ⟨A2, c2, rfl, q1, q2, q3⟩)
  have AW := hide AW0
  have B0 := (Below.refl w.heap.size w).alloc (Nat.le_refl _) (.cells #[.slice A n c, .slice A2 ks.length c2] 25)
  have bx := Blk.new w 25 #[.slice A n c, .slice A2 ks.length c2]
  have mx := fun i => bx.cell i
  have SLT := hide (fun w2 (h : Below w.heap.size w w2) => lslots_any A n c r (.slice A2 ks.length c2) ks w2 (by omega) (by omega) ((hr.below h).more h.size) hw hkw ((HS.out.below h).more h.size))
  have IT := hide (fun v u (x : List Int) (hx : x.length ≤ 1000000) w2 (h : SlI w2 w2.heap.size v x) (h' : SlI w2 w2.heap.size u x) => (by have h9 := ints10_any v u x x w2 hx hx h h'; rw [show decide (x = x) = true by simp] at h9; exact h9 : Calls Tryd.prog 8 #[v, u] w2 fun e w' => e = .returned (.bool true) ∧ Below w2.heap.size w2 w'))
  have G1 := hide (fun (j : Nat) (hj : j < r.length) => show ∃ h9 : j < (r.map (·.1) ++ ks).length, (r.map (·.1) ++ ks)[j]'h9 = r[j].1 from ⟨by rw [List.length_append, List.length_map]; omega, by rw [List.getElem_append_left (by rw [List.length_map]; exact hj), List.getElem_map]⟩)
  have G2 := hide (fun (j : Nat) (hj : j < ks.length) => show ∃ h9 : n + j < (r.map (·.1) ++ ks).length, (r.map (·.1) ++ ks)[n + j]'h9 = ks[j] from ⟨by rw [List.length_append, List.length_map]; omega, by rw [List.getElem_append_right (by rw [List.length_map]; omega)]; congr 1; rw [List.length_map]; omega⟩)
  have HL := hide (show (r.map (·.1) ++ ks).length = n + ks.length by rw [List.length_append, List.length_map]; omega)
  have HW := hide hw
  have HKW := hide hkw
  have HR := hide hr
  have HNN := hide (And.intro hn hk)
  have HNL := hide hnl
  have hn2 : ¬ (100 : Int) < (n : Int) := by omega
  have hk2 : ¬ (100 : Int) < (ks.length : Int) := by omega
  generalize r.map (·.1) ++ ks = hs at *
  clear hn hk hr hw hkw q1 q2 q3 hnl
  go_enter Tryd.func3, Tryd.ntmps3
  go_wp2_with fail
  generalize w.alloc (.cells #[.slice A n c, .slice A2 ks.length c2] 25) = w0 at *
  go_loopw [3, 4] (SsI w #[.slice A n c, .slice A2 ks.length c2] hs 0 n) (fun _ i _ => n - (intOf i).toNat)
  case atStart => exact ⟨0, 0, none, 0, rfl, Nat.zero_le _, rfl, rfl, by rw [List.take_zero]; exact World.ownsRow_nil _ _ _ _, bx, B0⟩
  case round =>
    clear bx B0 mx
    obtain ⟨j, n9, Aj, cj, rfl, hj, hn9, rfl, oa, bx, hb⟩ := hrel
    have mx := fun i => bx.cell i
    by_cases hlt : j < n
    · skip
      obtain ⟨a, ea, hkl, z1, z2⟩ := (HR.out.below hb).pair hlt
      subst ea
      obtain ⟨hh0, hge0⟩ := G1.out j hkl
      have e9 : n9 = j := by omega
      have hh : n9 < hs.length := by rw [e9]; exact hh0
      have hge : hs[n9]'hh = r[j].1 := by subst e9; exact hge0
      have WX := hide (HW.out _ (List.getElem_mem hkl))
      clear hge0 hh0 e9
      obtain ⟨x2, hx2⟩ : ∃ x2, r[j].2 = x2 := ⟨_, rfl⟩
      rw [hx2] at z2
      clear hx2
      generalize r[j].1 = x at *
      have SN := hide (slL_next hs n9 hh)
      rw [hge] at SN
      have SL := hide (fun w2 => RSlot_any x w2 WX.out)
      clear hge hh
      generalize hx : x % 65536 = y at *
      clear hx
      have hlt2 : (j : Int) < (n : Int) := by omega
      have hj3 : (j : Int) ≤ 100 := by have := HNN.out; omega
      have HPN := hide (show n9 ≤ 4294967296 by have := HNN.out; omega)
      have HN9 := hide hn9
      clear hn9
      have hz5 := bx.lt
      go_wp2_with fail
      refine (SL.out _).mono ?_
      rintro e w6 ⟨rfl, rfl⟩
      go_wp2_with (at_builtin; refine wpList_append_one rfl (.tmp 24) (.tmp 32) _ rfl (w.heap.size + 1) 3 i0 _ 1 8 Tryd.underlying27 hi0 hz0 hs0 hb0 rfl (by omega) (by omega) _ _ _ rfl (oa.alloc (.cells #[.int .i64 y] 3)) wr.heap.size #[.int .i64 y] rfl (Blk.new _ _ _) rfl rfl HPN.out (by rw [World.size_alloc]; omega) ?_; intro A7 c7 w7 oa7 hg7 hat7; have B7 := below_appended (hb.alloc (by omega) (.cells #[.int .i64 y] 3)) (oa.alloc (.cells #[.int .i64 y] 3)) hg7 (by omega) (by rw [World.size_alloc]; omega); have bx7 := blk_appended (bx.alloc (.cells #[.int .i64 y] 3)) (oa.alloc (.cells #[.int .i64 y] 3)) hg7 (by omega))
      go_roundw
      case measure => simp [intOf]; omega
      case rel => exact ⟨j + 1, n9 + 1, A7, c7, by go_num, by omega, by rw [HN9.out, Nat.add_assoc], rfl, by rw [SN.out]; exact oa7, bx7, B7⟩
    · skip
      have hjk : n = j := by omega
      subst hjk
      have hlt2 : ¬ (n : Int) < (n : Int) := by omega
      have HN1 := hide (show n9 = n + 0 by omega)
      clear hlt hn9 hj
      go_wp2_with fail
      clear mx hlt2
      go_loopw [3, 5] (SsI w #[.slice A n c, .slice A2 ks.length c2] hs n ks.length) (fun _ i _ => ks.length - (intOf i).toNat)
      case atStart => exact ⟨0, n9, Aj, cj, rfl, Nat.zero_le _, HN1.out, rfl, oa, bx, hb⟩
      case round =>
        clear oa bx hb HN1
        obtain ⟨j, n9, Aj, cj, rfl, hj, hn9, rfl, oa, bx, hb⟩ := hrel
        have mx := fun i => bx.cell i
        by_cases hlt : j < ks.length
        · skip
          obtain ⟨A6, c6, e6, _, _, hr6⟩ := HS.out
          injection e6 with e6 e7 e8
          subst e6 e8
          clear e7
          obtain ⟨a, ea, hkl, z1⟩ := (hr6.below hb).word hlt
          subst ea
          obtain ⟨hh0, hge0⟩ := G2.out j hlt
          have hh : n9 < hs.length := by rw [hn9]; exact hh0
          have hge : hs[n9]'hh = ks[j] := by subst hn9; exact hge0
          have WX := hide (HKW.out _ (List.getElem_mem hkl))
          clear hge0 hh0 hr6
          generalize ks[j] = x at *
          have SN := hide (slL_next hs n9 hh)
          rw [hge] at SN
          have SL := hide (fun w2 => RSlot_any x w2 WX.out)
          clear hge hh
          generalize hx : x % 65536 = y at *
          clear hx
          have hlt2 : (j : Int) < (ks.length : Int) := by omega
          have hj3 : (j : Int) ≤ 100 := by have := HNN.out; omega
          have HPN := hide (show n9 ≤ 4294967296 by have := HNN.out; omega)
          have HN9 := hide hn9
          clear hn9
          have hz5 := bx.lt
          go_wp2_with fail
          refine (SL.out _).mono ?_
          rintro e w6 ⟨rfl, rfl⟩
          go_wp2_with (at_builtin; refine wpList_append_one rfl (.tmp 41) (.tmp 48) _ rfl (w.heap.size + 1) 3 i0 _ 1 8 Tryd.underlying27 hi0 hz0 hs0 hb0 rfl (by omega) (by omega) _ _ _ rfl (oa.alloc (.cells #[.int .i64 y] 3)) wr.heap.size #[.int .i64 y] rfl (Blk.new _ _ _) rfl rfl HPN.out (by rw [World.size_alloc]; omega) ?_; intro A7 c7 w7 oa7 hg7 hat7; have B7 := below_appended (hb.alloc (by omega) (.cells #[.int .i64 y] 3)) (oa.alloc (.cells #[.int .i64 y] 3)) hg7 (by omega) (by rw [World.size_alloc]; omega); have bx7 := blk_appended (bx.alloc (.cells #[.int .i64 y] 3)) (oa.alloc (.cells #[.int .i64 y] 3)) hg7 (by omega))
          go_roundw
          case measure => simp [intOf]; omega
          case rel => exact ⟨j + 1, n9 + 1, A7, c7, by go_num, by omega, by rw [HN9.out, Nat.add_assoc], rfl, by rw [SN.out]; exact oa7, bx7, B7⟩
        · skip
          have hjk : j = ks.length := by omega
          have hlt2 : ¬ (j : Int) < (ks.length : Int) := by omega
          have hnn : n9 = hs.length := by rw [HL.out]; omega
          rw [hnn, List.take_length] at oa
          rw [hnn]
          have hsl : hs.length = (slL hs).length := by unfold slL; rw [List.length_map]
          have HLE := hide (show (slL hs).length ≤ 1000000 by rw [← hsl, HL.out]; have := HNN.out; omega)
          clear G1 G2 HL hnn hn9 hlt hj
          rw [hsl] at oa SLT ⊢
          clear hsl
          generalize slL hs = sl at *
          go_wp2_with fail
          refine (SLT.out _ hb).mono ?_
          rintro e w8 ⟨⟨A8, m8, c8, rfl, hm8, o8⟩, hb1⟩
          subst hm8
          replace oa := own_below oa hb1
          replace hb := hb.trans (hb1.mono hb.size)
          clear hb1 mx
          go_wp2_with fail
          refine (IT.out _ _ sl HLE.out _ (SlI.of_own o8) (SlI.of_own oa)).mono ?_
          rintro e w9 ⟨rfl, hb1⟩
          replace hb := hb.trans (hb1.mono hb.size)
          clear hb1
          go_wp2_with fail
          refine (AW.out _ hb).mono ?_
          rintro e w10 ⟨rfl, hb1⟩
          go_wp2_with fail
          go_ret
          exact ⟨rfl, hb.trans (hb1.mono hb.size)⟩
end Go.Proofs.YtokcbipmocpllaaDoor

/-
  Arguments opened: a slice, of whatever element type, reads as a list of rows of cells; words, pairs of words.
-/
namespace Go.Proofs.YtokcbipmocpllaaDoor
open Go.ChangeShapes Go.WideShapes Go.ChangeAt Go.RowKit Go.Deep

section
variable {H : Type} {enc : TypeId × Value → H} {P : Program} {w : World} {base : Nat} {spare : Nat → Bool} {held : Bool}

theorem flatten_get {s : Nat} : ∀ {rows : List (List Value)}, (∀ r ∈ rows, r.length = s) → ∀ (i j : Nat), j < s → (h : i < rows.length) → rows.flatten[i * s + j]? = (rows[i])[j]?
  | [], _, _, _, _, h => by simp at h
  | r :: rows, hr, i, j, hj, h => by
    have h0 : r.length = s := hr r (by simp)
    cases i with
    | zero => simp [List.getElem?_append_left (show j < r.length by omega)]
    | succ i =>
      have e : (i + 1) * s + j = i * s + j + s := by rw [Nat.add_mul]; omega
      rw [List.flatten_cons, List.getElem?_append_right (by omega), h0, e, Nat.add_sub_cancel]
      exact flatten_get (fun x hx => hr x (by simp [hx])) i j hj (by simpa using h)

theorem flatten_len {s : Nat} : ∀ {rows : List (List Value)}, (∀ r ∈ rows, r.length = s) → rows.flatten.length = rows.length * s
  | [], _ => by simp
  | r :: rows, hr => by
    rw [List.flatten_cons, List.length_append, hr r (by simp), flatten_len (fun x hx => hr x (by simp [hx]))]
    simp only [List.length_cons, Nat.add_mul]
    omega

/-- A reading by the rows: row i of s cells stands at 'a.add (i * s)'. -/
theorem reads_of_rows {B s n : Nat} {a : Addr} {rows : List (List Value)} (hb : 0 < n → a.block < B) (hl : rows.length = n) (hs : ∀ r ∈ rows, r.length = s)
    (hc : ∀ i (h : i < n), ∀ j, j < s → w.cell? ((a.add (i * s)).add j) = (rows[i]'(by omega))[j]?) : Reads w B s (some a) n rows.flatten := by
  refine ⟨by rw [flatten_len hs, hl], fun hn => ⟨a, rfl, hb hn, fun j u hu => ?_⟩⟩
  have hlt : j < n * s := by
    have h0 := (List.getElem?_eq_some_iff.1 hu).1
    rw [flatten_len hs, hl] at h0
    exact h0
  have hs0 : 0 < s := by
    rcases Nat.eq_zero_or_pos s with h | h
    · subst h; simp at hlt
    · exact h
  have hi : j / s < n := by rw [Nat.div_lt_iff_lt_mul hs0]; exact hlt
  have hm : j % s < s := Nat.mod_lt _ hs0
  have e : j / s * s + j % s = j := by rw [Nat.mul_comm]; exact Nat.div_add_mod j s
  have h1 := hc (j / s) hi (j % s) hm
  rw [add_of_add, e] at h1
  rw [h1, ← flatten_get hs (j / s) (j % s) hm (by omega), e]
  exact hu

/-- A slice argument: its rows. 'E': what the element's reading says of its cells. -/
theorem open_rows {t e : TypeId} {s B b0 : Nat} {v : Value} {d : DataW H} {ps : List MemPlace} (ht : P.underlying t = some (.slice e)) (hs : P.cellsOf e = s) (hs0 : 0 < s)
    (hv : Value.okWide P w .any b0 t v) (h : DataW.Trod enc P w base spare held t v d ps) (hlt : ∀ p ∈ ps, p.block < B) (hsp : ∀ a, spare a = true)
    (E : List Value → Prop) (hE : ∀ n cs' y, DataW.trod enc P w base spare held n e cs' = some y → (∀ p ∈ y.2, p.block < B) → E cs') :
    ∃ (A : Option Addr) (len cap : Nat) (rows : List (List Value)), v = .slice A len cap ∧ len ≤ cap ∧ cap ≤ maxLen ∧ rows.length = len ∧ Reads w B s A len rows.flatten ∧ ∀ r ∈ rows, r.length = s ∧ E r := by
  obtain ⟨A, len, cap, rfl⟩ := okWide_slice ht hv
  obtain ⟨fuel, hf⟩ := h
  rcases open_slice ht hf with ⟨hcs, _⟩ | ⟨a, len', cap', m, n, D, Pl, hcs, hba, hl, hm, hmm, hx, hi⟩
  · simp [Value.cells] at hcs
    obtain ⟨rfl, rfl, rfl⟩ := hcs
    exact ⟨none, 0, 0, [], rfl, Nat.le_refl _, Nat.zero_le _, rfl, Reads.none_, fun r hr => by cases hr⟩
  · simp [Value.cells] at hcs
    obtain ⟨rfl, rfl, rfl⟩ := hcs
    rw [hsp a.block, if_pos rfl] at hmm
    subst hmm
    simp only [Prod.mk.injEq] at hx
    rw [hs] at hx hi
    have hget : ∀ i, i < len → ∃ cs', (cs'.length = s ∧ ∀ j, j < s → w.cell? ((a.add (i * s)).add j) = cs'[j]?) ∧ E cs' := fun i h => by
      obtain ⟨cs', hc, htr⟩ := hi i (by omega)
      obtain ⟨_, h1, h2⟩ := World.cells?_some hc
      refine ⟨cs', ⟨h1, h2⟩, hE n cs' _ htr (fun p hp => hlt p ?_)⟩
      rw [hx.2, List.mem_append, List.mem_flatMap]
      exact .inr ⟨i, by simp; omega, hp⟩
    have hch : ∃ rows : List (List Value), rows.length = len ∧ ∀ i (h : i < rows.length), (rows[i].length = s ∧ ∀ j, j < s → w.cell? ((a.add (i * s)).add j) = rows[i][j]?) ∧ E rows[i] := by
      refine ⟨List.ofFn fun i : Fin len => (hget i.1 i.2).choose, by simp, fun i h => ?_⟩
      simp only [List.length_ofFn] at h
      simp only [List.getElem_ofFn]
      exact (hget i h).choose_spec
    obtain ⟨rows, hrl, hrows⟩ := hch
    have hall : ∀ r ∈ rows, r.length = s ∧ E r := fun r hr => by
      obtain ⟨i, hi, rfl⟩ := List.getElem_of_mem hr
      exact ⟨(hrows i hi).1.1, (hrows i hi).2⟩
    refine ⟨some a, len, _, rows, rfl, hl, hm, hrl, reads_of_rows (fun hn => ?_) hrl (fun r hr => (hall r hr).1) (fun i h j hj => (hrows i (by omega)).1.2 j hj), hall⟩
    refine hlt (.cell a.block (a.off + 0)) ?_
    rw [hx.2, List.mem_append]
    left
    unfold MemPlace.row
    rw [List.mem_map]
    refine ⟨0, ?_, rfl⟩
    rw [List.mem_range]
    exact Nat.mul_pos (by omega) hs0

/-- A slice of integers. -/
theorem open_words {t e : TypeId} {κ : IntKind} {B b0 : Nat} {v : Value} {d : DataW H} {ps : List MemPlace} (ht : P.underlying t = some (.slice e)) (he : P.underlying e = some (.int κ)) (hs : P.cellsOf e = 1)
    (hv : Value.okWide P w .any b0 t v) (h : DataW.Trod enc P w base spare held t v d ps) (hlt : ∀ p ∈ ps, p.block < B) (hsp : ∀ a, spare a = true) :
    ∃ A len cap l, v = .slice A len cap ∧ len ≤ cap ∧ cap ≤ maxLen ∧ l.length = len ∧ Reads w B 1 A len (ints κ l) ∧ ∀ x ∈ l, (Lit.int κ x).wf = true := by
  obtain ⟨A, len, cap, rows, hv, h1, h2, h3, h4, h5⟩ := open_rows ht hs (by omega) hv h hlt hsp (fun cs => ∃ x, cs = [.int κ x] ∧ (Lit.int κ x).wf = true) (fun n cs' y hy _ => by
    obtain ⟨x, h1, _, h3⟩ := DataW.trod_int he hy
    exact ⟨x, h1, h3⟩)
  have key : ∀ rows : List (List Value), (∀ r ∈ rows, r.length = 1 ∧ ∃ x, r = [Value.int κ x] ∧ (Lit.int κ x).wf = true) → ∃ l : List Int, l.length = rows.length ∧ ints κ l = rows.flatten ∧ ∀ x ∈ l, (Lit.int κ x).wf = true := by
    intro rows
    induction rows with
    | nil => intro _; exact ⟨[], rfl, rfl, by simp⟩
    | cons r rows ih =>
      intro h
      obtain ⟨l, e1, e2, e3⟩ := ih (fun r hr => h r (by simp [hr]))
      obtain ⟨x, rfl, hx⟩ := (h r (by simp)).2
      refine ⟨x :: l, by simp [e1], by simp [← e2, ints], fun y hy => ?_⟩
      rcases List.mem_cons.1 hy with rfl | hy
      · exact hx
      · exact e3 y hy
  obtain ⟨l, e1, e2, e3⟩ := key rows h5
  exact ⟨A, len, cap, l, hv, h1, h2, by omega, by rw [e2]; exact h4, e3⟩

/-- A slice of structs of two words. -/
theorem open_pairs {t e : TypeId} {f0 f1 : Field} {B b0 : Nat} {v : Value} {d : DataW H} {ps : List MemPlace} (ht : P.underlying t = some (.slice e)) (he : P.underlying e = some (.struct #[f0, f1]))
    (hone : oneCellFields P #[f0, f1] = true) (hf0 : P.underlying f0.type = some (.int .u64)) (hf1 : P.underlying f1.type = some (.int .u64)) (hs : P.cellsOf e = 2)
    (hv : Value.okWide P w .any b0 t v) (h : DataW.Trod enc P w base spare held t v d ps) (hlt : ∀ p ∈ ps, p.block < B) (hsp : ∀ a, spare a = true) :
    ∃ A len cap l, v = .slice A len cap ∧ len ≤ cap ∧ cap ≤ maxLen ∧ l.length = len ∧ Reads w B 2 A len (rec2 l) ∧ ∀ r ∈ l, W64 r.1 ∧ W64 r.2 := by
  obtain ⟨A, len, cap, rows, hv, h1, h2, h3, h4, h5⟩ := open_rows ht hs (by omega) hv h hlt hsp (fun cs => cs.length = 2 → ∃ x y, cs = [.int .u64 x, .int .u64 y] ∧ W64 x ∧ W64 y) (fun n cs' z hy _ hl => by
    obtain ⟨ys, n', hn', hy', hlen, hyl, hf⟩ := DataW.trod_struct he hy
    match cs', hl with
    | [a, b], _ =>
      obtain ⟨o0, k0⟩ := hone_of hone 0 f0 rfl
      obtain ⟨o1, k1⟩ := hone_of hone 1 f1 rfl
      match ys, hyl with
      | [y0, y1], _ =>
        have g0 := hf 0 f0 rfl
        have g1 := hf 1 f1 rfl
        simp [o0, o1, k0, k1] at g0 g1
        obtain ⟨x, hx, _, wx⟩ := DataW.trod_int hf0 g0
        obtain ⟨y, hy, _, wy⟩ := DataW.trod_int hf1 g1
        simp at hx hy
        exact ⟨x, y, by rw [hx, hy], W64.of_wf wx, W64.of_wf wy⟩)
  have key : ∀ rows : List (List Value), (∀ r ∈ rows, r.length = 2 ∧ (r.length = 2 → ∃ x y, r = [Value.int .u64 x, .int .u64 y] ∧ W64 x ∧ W64 y)) → ∃ l : List (Int × Int), l.length = rows.length ∧ rec2 l = rows.flatten ∧ ∀ r ∈ l, W64 r.1 ∧ W64 r.2 := by
    intro rows
    induction rows with
    | nil => intro _; exact ⟨[], rfl, rfl, by simp⟩
    | cons r rows ih =>
      intro h
      obtain ⟨l, e1, e2, e3⟩ := ih (fun r hr => h r (by simp [hr]))
      obtain ⟨h1, h2⟩ := h r (by simp)
      obtain ⟨x, y, rfl, hx, hy⟩ := h2 h1
      refine ⟨(x, y) :: l, by simp [e1], by simp [← e2, rec2], fun z hz => ?_⟩
      rcases List.mem_cons.1 hz with rfl | hz
      · exact ⟨hx, hy⟩
      · exact e3 z hz
  obtain ⟨l, e1, e2, e3⟩ := key rows h5
  exact ⟨A, len, cap, l, hv, h1, h2, by omega, by rw [e2]; exact h4, e3⟩

/-- A struct by value, whatever its one-cell fields: its cells, each with its own reading. -/
theorem open_flat {t : TypeId} {fs : Array Field} {b0 : Nat} {v : Value} {d : DataW H} {ps : List MemPlace} (ht : P.underlying t = some (.struct fs)) (hone : oneCellFields P fs = true) (hC : P.cellsOf t = fs.size)
    (hv : Value.okWide P w .any b0 t v) (h : DataW.Trod enc P w base spare held t v d ps) :
    ∃ l : List Value, v = .agg l.toArray ∧ l.length = fs.size ∧ ∀ (j : Nat) (f : Field), fs[j]? = some f → ∃ x n y, l[j]? = some x ∧ DataW.trod enc P w base spare held n f.type [x] = some y ∧ ∀ p ∈ y.2, p ∈ ps := by
  obtain ⟨cs, rfl, hsz⟩ := okWide_struct ht hv
  obtain ⟨l⟩ := cs
  have hl : l.length = fs.size := by simpa using hsz.trans hC
  obtain ⟨fuel, hf⟩ := h
  obtain ⟨ys, n, _, hx, _, hlen, hg⟩ := DataW.trod_struct ht hf
  simp only [Prod.mk.injEq] at hx
  refine ⟨l, rfl, hl, fun j f hj => ?_⟩
  obtain ⟨ho, hk⟩ := hone_of hone j f hj
  have hjl : j < fs.size := (Array.getElem?_eq_some_iff.1 hj).1
  have h1 := hg j f hj
  rw [ho, hk] at h1
  have hone' : ((Value.agg l.toArray).cells.toList.drop j).take 1 = [l[j]'(by omega)] := by
    show (l.drop j).take 1 = _
    rw [List.drop_eq_getElem_cons (by omega)]
    rfl
  rw [hone'] at h1
  have hys : ys[j]? = some (ys[j]'(by omega)) := List.getElem?_eq_getElem (by omega)
  refine ⟨l[j]'(by omega), n, ys[j]'(by omega), List.getElem?_eq_getElem (by omega), h1.trans hys, fun p hp => ?_⟩
  rw [hx.2, List.mem_flatMap]
  exact ⟨ys[j]'(by omega), List.getElem_mem _, hp⟩

/-- A struct of five ints by value. -/
theorem open_five {t : TypeId} {κ : IntKind} {f0 f1 f2 f3 f4 : Field} {b0 : Nat} {v : Value} {d : DataW H} {ps : List MemPlace} (ht : P.underlying t = some (.struct #[f0, f1, f2, f3, f4])) (hone : oneCellFields P #[f0, f1, f2, f3, f4] = true) (hC : P.cellsOf t = 5)
    (k0 : P.underlying f0.type = some (.int κ)) (k1 : P.underlying f1.type = some (.int κ)) (k2 : P.underlying f2.type = some (.int κ)) (k3 : P.underlying f3.type = some (.int κ)) (k4 : P.underlying f4.type = some (.int κ))
    (hv : Value.okWide P w .any b0 t v) (h : DataW.Trod enc P w base spare held t v d ps) :
    ∃ a0 a1 a2 a3 a4, v = .agg #[.int κ a0, .int κ a1, .int κ a2, .int κ a3, .int κ a4] ∧ (Lit.int κ a0).wf = true ∧ (Lit.int κ a1).wf = true ∧ (Lit.int κ a2).wf = true ∧ (Lit.int κ a3).wf = true ∧ (Lit.int κ a4).wf = true := by
  obtain ⟨l, rfl, hl, hf⟩ := open_flat ht hone hC hv h
  match l, hl with
  | [x0, x1, x2, x3, x4], _ =>
    obtain ⟨y0, n0, z0, e0, g0, _⟩ := hf 0 f0 rfl
    obtain ⟨y1, n1, z1, e1, g1, _⟩ := hf 1 f1 rfl
    obtain ⟨y2, n2, z2, e2, g2, _⟩ := hf 2 f2 rfl
    obtain ⟨y3, n3, z3, e3, g3, _⟩ := hf 3 f3 rfl
    obtain ⟨y4, n4, z4, e4, g4, _⟩ := hf 4 f4 rfl
    obtain ⟨a0, h0, _, w0⟩ := DataW.trod_int k0 g0
    obtain ⟨a1, h1, _, w1⟩ := DataW.trod_int k1 g1
    obtain ⟨a2, h2, _, w2⟩ := DataW.trod_int k2 g2
    obtain ⟨a3, h3, _, w3⟩ := DataW.trod_int k3 g3
    obtain ⟨a4, h4, _, w4⟩ := DataW.trod_int k4 g4
    simp at e0 e1 e2 e3 e4 h0 h1 h2 h3 h4
    exact ⟨a0, a1, a2, a3, a4, by rw [e0, e1, e2, e3, e4, h0, h1, h2, h3, h4], w0, w1, w2, w3, w4⟩
end
end Go.Proofs.YtokcbipmocpllaaDoor

/-
  A sweep's lists by value, as arguments.
-/
namespace Go.Proofs.YtokcbipmocpllaaDoor
open Go.ChangeShapes Go.WideShapes Go.ChangeAt Go.RowKit Go.Deep

section
variable {H : Type} {enc : TypeId × Value → H} {P : Program} {w : World} {spare : Nat → Bool} {held : Bool} {base : Nat}
/-- A slice argument: its rows. 'E': what the element's reading says of its cells. -/
theorem open_rowsF {t e : TypeId} {s B : Nat} {v : Value} {d : DataW H} {ps : List MemPlace} (ht : P.underlying t = some (.slice e)) (hs : P.cellsOf e = s) (hs0 : 0 < s)
    (hv : ∃ A len cap, v = .slice A len cap) (h : DataW.Trod enc P w base spare held t v d ps) (hlt : ∀ p ∈ ps, p.block < B) (hsp : ∀ a, spare a = true)
    (E : List Value → Prop) (hE : ∀ n cs' y, DataW.trod enc P w base spare held n e cs' = some y → (∀ p ∈ y.2, p.block < B) → E cs') :
    ∃ (A : Option Addr) (len cap : Nat) (rows : List (List Value)), v = .slice A len cap ∧ len ≤ cap ∧ cap ≤ maxLen ∧ rows.length = len ∧ Reads w B s A len rows.flatten ∧ ∀ r ∈ rows, r.length = s ∧ E r := by
  obtain ⟨A, len, cap, rfl⟩ := hv
  obtain ⟨fuel, hf⟩ := h
  rcases open_slice ht hf with ⟨hcs, _⟩ | ⟨a, len', cap', m, n, D, Pl, hcs, hba, hl, hm, hmm, hx, hi⟩
  · simp [Value.cells] at hcs
    obtain ⟨rfl, rfl, rfl⟩ := hcs
    exact ⟨none, 0, 0, [], rfl, Nat.le_refl _, Nat.zero_le _, rfl, Reads.none_, fun r hr => by cases hr⟩
  · simp [Value.cells] at hcs
    obtain ⟨rfl, rfl, rfl⟩ := hcs
    rw [hsp a.block, if_pos rfl] at hmm
    subst hmm
    simp only [Prod.mk.injEq] at hx
    rw [hs] at hx hi
    have hget : ∀ i, i < len → ∃ cs', (cs'.length = s ∧ ∀ j, j < s → w.cell? ((a.add (i * s)).add j) = cs'[j]?) ∧ E cs' := fun i h => by
      obtain ⟨cs', hc, htr⟩ := hi i (by omega)
      obtain ⟨_, h1, h2⟩ := World.cells?_some hc
      refine ⟨cs', ⟨h1, h2⟩, hE n cs' _ htr (fun p hp => hlt p ?_)⟩
      rw [hx.2, List.mem_append, List.mem_flatMap]
      exact .inr ⟨i, by simp; omega, hp⟩
    have hch : ∃ rows : List (List Value), rows.length = len ∧ ∀ i (h : i < rows.length), (rows[i].length = s ∧ ∀ j, j < s → w.cell? ((a.add (i * s)).add j) = rows[i][j]?) ∧ E rows[i] := by
      refine ⟨List.ofFn fun i : Fin len => (hget i.1 i.2).choose, by simp, fun i h => ?_⟩
      simp only [List.length_ofFn] at h
      simp only [List.getElem_ofFn]
      exact (hget i h).choose_spec
    obtain ⟨rows, hrl, hrows⟩ := hch
    have hall : ∀ r ∈ rows, r.length = s ∧ E r := fun r hr => by
      obtain ⟨i, hi, rfl⟩ := List.getElem_of_mem hr
      exact ⟨(hrows i hi).1.1, (hrows i hi).2⟩
    refine ⟨some a, len, _, rows, rfl, hl, hm, hrl, reads_of_rows (fun hn => ?_) hrl (fun r hr => (hall r hr).1) (fun i h j hj => (hrows i (by omega)).1.2 j hj), hall⟩
    refine hlt (.cell a.block (a.off + 0)) ?_
    rw [hx.2, List.mem_append]
    left
    unfold MemPlace.row
    rw [List.mem_map]
    refine ⟨0, ?_, rfl⟩
    rw [List.mem_range]
    exact Nat.mul_pos (by omega) hs0

/-- A slice of integers. -/
theorem open_wordsF {t e : TypeId} {κ : IntKind} {B : Nat} {v : Value} {d : DataW H} {ps : List MemPlace} (ht : P.underlying t = some (.slice e)) (he : P.underlying e = some (.int κ)) (hs : P.cellsOf e = 1)
    (hv : ∃ A len cap, v = .slice A len cap) (h : DataW.Trod enc P w base spare held t v d ps) (hlt : ∀ p ∈ ps, p.block < B) (hsp : ∀ a, spare a = true) :
    ∃ A len cap l, v = .slice A len cap ∧ len ≤ cap ∧ cap ≤ maxLen ∧ l.length = len ∧ Reads w B 1 A len (ints κ l) ∧ ∀ x ∈ l, (Lit.int κ x).wf = true := by
  obtain ⟨A, len, cap, rows, hv, h1, h2, h3, h4, h5⟩ := open_rowsF ht hs (by omega) hv h hlt hsp (fun cs => ∃ x, cs = [.int κ x] ∧ (Lit.int κ x).wf = true) (fun n cs' y hy _ => by
    obtain ⟨x, h1, _, h3⟩ := DataW.trod_int he hy
    exact ⟨x, h1, h3⟩)
  have key : ∀ rows : List (List Value), (∀ r ∈ rows, r.length = 1 ∧ ∃ x, r = [Value.int κ x] ∧ (Lit.int κ x).wf = true) → ∃ l : List Int, l.length = rows.length ∧ ints κ l = rows.flatten ∧ ∀ x ∈ l, (Lit.int κ x).wf = true := by
    intro rows
    induction rows with
    | nil => intro _; exact ⟨[], rfl, rfl, by simp⟩
    | cons r rows ih =>
      intro h
      obtain ⟨l, e1, e2, e3⟩ := ih (fun r hr => h r (by simp [hr]))
      obtain ⟨x, rfl, hx⟩ := (h r (by simp)).2
      refine ⟨x :: l, by simp [e1], by simp [← e2, ints], fun y hy => ?_⟩
      rcases List.mem_cons.1 hy with rfl | hy
      · exact hx
      · exact e3 y hy
  obtain ⟨l, e1, e2, e3⟩ := key rows h5
  exact ⟨A, len, cap, l, hv, h1, h2, by omega, by rw [e2]; exact h4, e3⟩

/-- A slice of structs of two words. -/
theorem open_pairsF {t e : TypeId} {f0 f1 : Field} {B : Nat} {v : Value} {d : DataW H} {ps : List MemPlace} (ht : P.underlying t = some (.slice e)) (he : P.underlying e = some (.struct #[f0, f1]))
    (hone : oneCellFields P #[f0, f1] = true) (hf0 : P.underlying f0.type = some (.int .u64)) (hf1 : P.underlying f1.type = some (.int .u64)) (hs : P.cellsOf e = 2)
    (hv : ∃ A len cap, v = .slice A len cap) (h : DataW.Trod enc P w base spare held t v d ps) (hlt : ∀ p ∈ ps, p.block < B) (hsp : ∀ a, spare a = true) :
    ∃ A len cap l, v = .slice A len cap ∧ len ≤ cap ∧ cap ≤ maxLen ∧ l.length = len ∧ Reads w B 2 A len (rec2 l) ∧ ∀ r ∈ l, W64 r.1 ∧ W64 r.2 := by
  obtain ⟨A, len, cap, rows, hv, h1, h2, h3, h4, h5⟩ := open_rowsF ht hs (by omega) hv h hlt hsp (fun cs => cs.length = 2 → ∃ x y, cs = [.int .u64 x, .int .u64 y] ∧ W64 x ∧ W64 y) (fun n cs' z hy _ hl => by
    obtain ⟨ys, n', hn', hy', hlen, hyl, hf⟩ := DataW.trod_struct he hy
    match cs', hl with
    | [a, b], _ =>
      obtain ⟨o0, k0⟩ := hone_of hone 0 f0 rfl
      obtain ⟨o1, k1⟩ := hone_of hone 1 f1 rfl
      match ys, hyl with
      | [y0, y1], _ =>
        have g0 := hf 0 f0 rfl
        have g1 := hf 1 f1 rfl
        simp [o0, o1, k0, k1] at g0 g1
        obtain ⟨x, hx, _, wx⟩ := DataW.trod_int hf0 g0
        obtain ⟨y, hy, _, wy⟩ := DataW.trod_int hf1 g1
        simp at hx hy
        exact ⟨x, y, by rw [hx, hy], W64.of_wf wx, W64.of_wf wy⟩)
  have key : ∀ rows : List (List Value), (∀ r ∈ rows, r.length = 2 ∧ (r.length = 2 → ∃ x y, r = [Value.int .u64 x, .int .u64 y] ∧ W64 x ∧ W64 y)) → ∃ l : List (Int × Int), l.length = rows.length ∧ rec2 l = rows.flatten ∧ ∀ r ∈ l, W64 r.1 ∧ W64 r.2 := by
    intro rows
    induction rows with
    | nil => intro _; exact ⟨[], rfl, rfl, by simp⟩
    | cons r rows ih =>
      intro h
      obtain ⟨l, e1, e2, e3⟩ := ih (fun r hr => h r (by simp [hr]))
      obtain ⟨h1, h2⟩ := h r (by simp)
      obtain ⟨x, y, rfl, hx, hy⟩ := h2 h1
      refine ⟨(x, y) :: l, by simp [e1], by simp [← e2, rec2], fun z hz => ?_⟩
      rcases List.mem_cons.1 hz with rfl | hz
      · exact ⟨hx, hy⟩
      · exact e3 z hz
  obtain ⟨l, e1, e2, e3⟩ := key rows h5
  exact ⟨A, len, cap, l, hv, h1, h2, by omega, by rw [e2]; exact h4, e3⟩

end
section
variable {H : Type} {enc : TypeId × Value → H} {w : World} {spare : Nat → Bool} {held : Bool} {base : Nat}
/-- A slice of words in a struct's field. -/
theorem open_field {B n : Nat} {x : Value} {y : DataW H × List MemPlace} (g : DataW.trod enc Tryd.prog w base spare held n 23 [x] = some y) (hlt : ∀ p ∈ y.2, p.block < B) (hsp : ∀ a, spare a = true) : ∃ l, Sl w B x l ∧ ∀ z ∈ l, W64 z := by
  have hx : ∃ A len cap, x = .slice A len cap := by
    rcases open_slice Tryd.underlying23 g with ⟨hcs, _⟩ | ⟨a, len', cap', m, n, D, Pl, hcs, _⟩
    · simp only [List.cons.injEq, and_true] at hcs
      exact ⟨_, _, _, hcs⟩
    · simp only [List.cons.injEq, and_true] at hcs
      exact ⟨_, _, _, hcs⟩
  obtain ⟨A0, l0, c0, rfl⟩ := hx
  obtain ⟨A, len, cap, l, h1, h2, h3, h4, h5, h6⟩ := open_wordsF (v := .slice A0 l0 c0) (d := y.1) (ps := y.2) Tryd.underlying23 Tryd.underlying29 (by kernel_rfl) ⟨_, _, _, rfl⟩ ⟨n, by simpa [Value.cells] using g⟩ hlt hsp
  refine ⟨l, ⟨A, cap, by rw [h1, h4], by omega, by unfold maxLen at h3; omega, by rw [h4]; exact h5⟩, fun z hz => W64.of_wf (h6 z hz)⟩
/-- A slice of records in a struct's field. -/
theorem open_fieldP {B n : Nat} {x : Value} {y : DataW H × List MemPlace} (g : DataW.trod enc Tryd.prog w base spare held n 22 [x] = some y) (hlt : ∀ p ∈ y.2, p.block < B) (hsp : ∀ a, spare a = true) : ∃ A len cap l, x = .slice A len cap ∧ len ≤ cap ∧ cap ≤ maxLen ∧ l.length = len ∧ Reads w B 2 A len (rec2 l) ∧ ∀ r ∈ l, W64 r.1 ∧ W64 r.2 := by
  have hx : ∃ A len cap, x = .slice A len cap := by
    rcases open_slice Tryd.underlying22 g with ⟨hcs, _⟩ | ⟨a, len', cap', m, n, D, Pl, hcs, _⟩
    · simp only [List.cons.injEq, and_true] at hcs
      exact ⟨_, _, _, hcs⟩
    · simp only [List.cons.injEq, and_true] at hcs
      exact ⟨_, _, _, hcs⟩
  obtain ⟨A0, l0, c0, rfl⟩ := hx
  exact open_pairsF (v := .slice A0 l0 c0) (d := y.1) (ps := y.2) Tryd.underlying22 Tryd.underlying31 (by kernel_rfl) Tryd.underlying29 Tryd.underlying29 (by kernel_rfl) ⟨_, _, _, rfl⟩ ⟨n, by simpa [Value.cells] using g⟩ hlt hsp
set_option maxRecDepth 100000 in
/-- A sweep's lists by value. -/
theorem open_lists {B b0 : Nat} {v : Value} {d : DataW H} {ps : List MemPlace} (hv : Value.okWide Tryd.prog w .any b0 25 v) (h : DataW.Trod enc Tryd.prog w base spare held 25 v d ps) (hlt : ∀ p ∈ ps, p.block < B) (hsp : ∀ a, spare a = true) :
    ∃ A n c r u ks, v = .agg #[.slice A n c, u] ∧ n ≤ c ∧ c ≤ maxLen ∧ r.length = n ∧ Reads w B 2 A n (rec2 r) ∧ (∀ x ∈ r, W64 x.1 ∧ W64 x.2) ∧ Sl w B u ks ∧ ∀ z ∈ ks, W64 z := by
  obtain ⟨xs, rfl, hxl, hf⟩ := open_flat Tryd.underlying25 (by kernel_rfl) (by kernel_rfl) hv h
  match xs, hxl with
  | [x0, x1], _ =>
    obtain ⟨y0, n0, z0, e0, g0, q0⟩ := hf 0 _ rfl
    obtain ⟨y1, n1, z1, e1, g1, q1⟩ := hf 1 _ rfl
    obtain ⟨A, n, c, r, hx, h1, h2, h3, h4, h5⟩ := open_fieldP g0 (fun p hp => hlt p (q0 p hp)) hsp
    obtain ⟨ks, hk, wk⟩ := open_field g1 (fun p hp => hlt p (q1 p hp)) hsp
    simp at e0 e1
    exact ⟨A, n, c, r, y1, ks, by rw [e0, e1, hx], h1, h2, h3, h4, h5, hk, wk⟩
end
end Go.Proofs.YtokcbipmocpllaaDoor

