/-
  Package config: all, check, Right; gleaningref07: Numbers, Wrong.
-/
import Derived.Test.YtgcdmgpcfdfomaaDoorFlds
import Derived.Test.YtgcdmgpcfdfomaaDoorLayP
import Derived.Test.YtgcdmgpcfdfomaaDoorMem
import Derived.Deep.QuietTactic
import Derived.BigQuiet
namespace Go.Proofs.YtgcdmgpcfdfomaaDoor
open Go.RowKit

/-- The numbers of a configuration, and their bounds. -/
def cN (s t f l p : Int) (k : Nat) : Int := [s, t, f, l, p].getD k 0
def cLo (k : Nat) : Int := [(1 : Int), 1, 4, 1, 1].getD k 0
def cHi (k : Nat) : Int := [(1000 : Int), 64, 64, 64, 1048576].getD k 0
def cIn (s t f l p : Int) (k : Nat) : Prop := cLo k ≤ cN s t f l p k ∧ cN s t f l p k ≤ cHi k
theorem five {k : Nat} (h : k < 5) : k = 0 ∨ k = 1 ∨ k = 2 ∨ k = 3 ∨ k = 4 := by omega
theorem cfg_all {s t f l p : Int} (h : ∀ k, k < 5 → cIn s t f l p k) : cfgOk s t f l p = true := by
  have h0 : 1 ≤ s ∧ s ≤ 1000 := h 0 (by omega)
  have h1 : 1 ≤ t ∧ t ≤ 64 := h 1 (by omega)
  have h2 : 4 ≤ f ∧ f ≤ 64 := h 2 (by omega)
  have h3 : 1 ≤ l ∧ l ≤ 64 := h 3 (by omega)
  have h4 : 1 ≤ p ∧ p ≤ 1048576 := h 4 (by omega)
  rw [cfgOk_iff]
  omega
theorem cfg_no {s t f l p : Int} {k : Nat} (hk : k < 5) (h : ¬ cIn s t f l p k) : cfgOk s t f l p = false := by
  rw [Bool.eq_false_iff]
  intro e
  rw [cfgOk_iff] at e
  apply h
  unfold cIn
  rcases five hk with rfl | rfl | rfl | rfl | rfl
  · show 1 ≤ s ∧ s ≤ 1000; omega
  · show 1 ≤ t ∧ t ≤ 64; omega
  · show 4 ≤ f ∧ f ≤ 64; omega
  · show 1 ≤ l ∧ l ≤ 64; omega
  · show 1 ≤ p ∧ p ≤ 1048576; omega

def I64s (s t f l p : Int) : Prop := I64 s ∧ I64 t ∧ I64 f ∧ I64 l ∧ I64 p
theorem cN_I64 {s t f l p : Int} (h : I64s s t f l p) {k : Nat} (hk : k < 5) : I64 (cN s t f l p k) := by
  obtain ⟨h0, h1, h2, h3, h4⟩ := h
  rcases five hk with rfl | rfl | rfl | rfl | rfl
  · exact h0
  · exact h1
  · exact h2
  · exact h3
  · exact h4
def bndA (s t f l p : Int) : Array Value := #[.int .i64 s, .int .i64 1, .int .i64 1000, .int .i64 t, .int .i64 1, .int .i64 64, .int .i64 f, .int .i64 4, .int .i64 64, .int .i64 l, .int .i64 1, .int .i64 64, .int .i64 p, .int .i64 1, .int .i64 1048576]
theorem bndA_at (s t f l p : Int) {k : Nat} (hk : k < 5) : (bndA s t f l p)[k * 3]? = some (.int .i64 (cN s t f l p k)) ∧ (bndA s t f l p)[k * 3 + 1]? = some (.int .i64 (cLo k)) ∧ (bndA s t f l p)[k * 3 + 2]? = some (.int .i64 (cHi k)) := by
  rcases five hk with rfl | rfl | rfl | rfl | rfl
  all_goals exact ⟨rfl, rfl, rfl⟩
def numA (s t f l p : Int) : Array Value := #[.int .i64 s, .int .i64 t, .int .i64 f, .int .i64 l, .int .i64 p]
theorem numA_at (s t f l p : Int) {k : Nat} (hk : k < 5) : (numA s t f l p)[k]? = some (.int .i64 (cN s t f l p k)) := by
  rcases five hk with rfl | rfl | rfl | rfl | rfl
  all_goals rfl
theorem lo_at {k : Nat} (hk : k < 5) : (numA 1 1 4 1 1)[k]? = some (.int .i64 (cLo k)) := by
  rcases five hk with rfl | rfl | rfl | rfl | rfl
  all_goals rfl
theorem hi_at {k : Nat} (hk : k < 5) : (numA 1000 64 64 64 1048576)[k]? = some (.int .i64 (cHi k)) := by
  rcases five hk with rfl | rfl | rfl | rfl | rfl
  all_goals rfl

set_option maxHeartbeats 400000 in
theorem call_any (s t f l p : Int) (w : World) :
    Calls Tryd.prog 56 #[.agg #[.int .i64 s, .int .i64 t, .int .i64 f, .int .i64 l, .int .i64 p]] w fun e w' => (∃ g, e = .returned (.slice (some ⟨g, 0, none⟩) 5 5) ∧ Blk w' g 84 (bndA s t f l p)) ∧ Below w.heap.size w w' := by
  go_enter Tryd.func56, Tryd.ntmps56
  go_wp2_with fail
  go_ret
  have h := fun o => Blk.new (w.alloc o) 84 (bndA s t f l p)
  simp only [World.size_alloc] at h
  exact ⟨⟨_, rfl, h _⟩, ((Below.refl _ _).alloc (Nat.le_refl _) _).alloc (by simp only [World.size_alloc]; omega) _⟩

def wordsB : ByteArray := ⟨#[115, 108, 111, 116, 115, 32, 116, 104, 114, 101, 97, 100, 115, 32, 102, 97, 110, 32, 108, 105, 109, 98, 111, 32, 112, 97, 116, 105, 101, 110, 99, 101]⟩
theorem fieldsW (w : World) (hT : Tab w) :
    Calls Tryd.prog 55 #[.string wordsB] w fun e w' => (∃ g cs, e = .returned (.slice (some ⟨g, 0, none⟩) 5 5) ∧ Blk w' g 9 cs ∧ ∀ k, k < 5 → ∃ x, cs[k]? = some (.string x)) ∧ Below w.heap.size w w' := by
  have hasc : ∀ (j : Nat) b, wordsB.data.toList[j]? = some b → b.toNat < 128 := by
    intro j b hb
    have hm := List.mem_of_getElem? hb
    have hall : (wordsB.data.toList.all fun b => decide (b.toNat < 128)) = true := by decide
    simpa using List.all_eq_true.1 hall b hm
  refine (fields_any wordsB w (by decide) hasc (fun c hc => hT.2 c hc)).mono ?_
  rintro e w' ⟨rfl, rfl⟩
  have hl : (Lib.fields wordsB.data.toList).length = 5 := by decide
  rw [hl]
  refine ⟨⟨_, _, rfl, Blk.new _ _ _, fun k hk => ?_⟩, (Below.refl _ _).alloc (Nat.le_refl _) _⟩
  have hk2 : k < (Lib.fields wordsB.data.toList).length := by omega
  exact ⟨_, by rw [List.getElem?_toArray, List.getElem?_map, List.getElem?_eq_getElem hk2]; rfl⟩

def ChkIn (w : World) (P : Nat → Prop) (i : Value) (wr : World) : Prop := ∃ k : Nat, i = .int .i64 k ∧ k ≤ 5 ∧ (∀ j, j < k → P j) ∧ Below w.heap.size w wr
/-- An error, or none. -/
def ErrIs (ok : Bool) (v : Value) : Prop := if ok = true then v = .nilIface else ∃ a, v = .iface 85 (.pointer (some a))

set_option maxHeartbeats 1000000 in
theorem check_any (s t f l p : Int) (w : World) (hT : Tab w) :
    Calls Tryd.prog 43 #[.agg #[.int .i64 s, .int .i64 t, .int .i64 f, .int .i64 l, .int .i64 p]] w fun e w' => (∃ v, e = .returned v ∧ ErrIs (cfgOk s t f l p) v) ∧ Below w.heap.size w w' := by
  have F := hide (fun w2 (hb : Below w.heap.size w w2) => fieldsW w2 (hT.below hb))
  have C := hide (fun w2 => call_any s t f l p w2)
  have bx := Blk.new w 23 #[.int .i64 s, .int .i64 t, .int .i64 f, .int .i64 l, .int .i64 p]
  go_enter Tryd.func43, Tryd.ntmps43
  go_wp2_with fail
  have B0 := (Below.refl w.heap.size w).alloc (Nat.le_refl _) (.cells #[.int .i64 s, .int .i64 t, .int .i64 f, .int .i64 l, .int .i64 p] 23)
  refine (F.out _ B0).mono ?_
  rintro e w1 ⟨⟨g1, cs, rfl, b1, hcs⟩, hb1⟩
  have B1 := B0.trans (hb1.mono B0.size)
  have bx1 := bx.below hb1 bx.lt
  have m1 := fun i => bx1.cell i
  have HCS := hide hcs
  have HB1 := hide b1
  clear hcs b1 hb1
  go_wp2_with fail
  refine (C.out _).mono ?_
  rintro e w2 ⟨⟨g2, rfl, b2⟩, hb2⟩
  have B2 := B1.trans (hb2.mono B1.size)
  have b1 := HB1.out.below hb2 HB1.out.lt
  have H1 := hide b1
  have H2 := hide b2
  have HB2 := hide B2
  clear b1 b2 hb2 m1 bx1 HB1 B1 B2
  go_wp2_with fail
  go_loopw [10] (ChkIn w2 (cIn s t f l p)) (fun i _ => 5 - (intOf i).toNat)
  case atStart => exact ⟨0, rfl, by omega, fun j h => absurd h (by omega), Below.refl _ _⟩
  case round =>
    obtain ⟨k, rfl, hk, hok, hb⟩ := hrel
    have HOK := hide hok
    clear hok
    by_cases hlt : k < 5
    · obtain ⟨x, hx⟩ := HCS.out k hlt
      obtain ⟨e0, e1, e2⟩ := bndA_at s t f l p hlt
      have b2 := H2.out.below hb H2.out.lt
      have b1 := H1.out.below hb H1.out.lt
      have z0 := (b2.cell (k * 3)).trans e0
      have z1 := (b2.cell (k * 3 + 1)).trans e1
      have z2 := (b2.cell (k * 3 + 2)).trans e2
      have z3 := (b1.cell k).trans hx
      have HI := hide (show cIn s t f l p k ↔ (cLo k ≤ cN s t f l p k ∧ cN s t f l p k ≤ cHi k) from Iff.rfl)
      have HN := hide (fun h => cfg_no (s := s) (t := t) (f := f) (l := l) (p := p) hlt h)
      have y1 := b1.lt
      clear e0 e1 e2 hx b1 b2
      generalize cN s t f l p k = n at *
      generalize cLo k = lo at *
      generalize cHi k = hi at *
      have hz := hb.size
      by_cases c1 : n < lo
      · have E := hide (HN.out (fun h => by have := HI.out.1 h; omega))
        go_wp2_with fail
        go_ret
        refine ⟨⟨_, rfl, ?_⟩, ?_⟩
        · rw [E.out]
          exact ⟨_, rfl⟩
        · have B9 := HB2.out.trans (hb.mono HB2.out.size)
          exact (B9.alloc B9.size _).alloc (by have := B9.size; simp only [World.size_alloc]; omega) _
      by_cases c2 : hi < n
      · have E := hide (HN.out (fun h => by have := HI.out.1 h; omega))
        go_wp2_with fail
        go_ret
        refine ⟨⟨_, rfl, ?_⟩, ?_⟩
        · rw [E.out]
          exact ⟨_, rfl⟩
        · have B9 := HB2.out.trans (hb.mono HB2.out.size)
          exact (B9.alloc B9.size _).alloc (by have := B9.size; simp only [World.size_alloc]; omega) _
      · have E := hide (HI.out.2 ⟨by omega, by omega⟩)
        go_wp2_with fail
        go_roundw
        case rel => exact ⟨k + 1, by go_num, by omega, fun j hj => by
          by_cases e : j = k
          · subst e
            exact E.out
          · exact HOK.out j (by omega), hb.alloc hz _⟩
        case measure => simp [intOf]; omega
    · obtain rfl : k = 5 := by omega
      have E := hide (cfg_all HOK.out)
      go_wp2_with fail
      go_ret
      exact ⟨⟨_, rfl, by rw [E.out]; rfl⟩, HB2.out.trans (hb.mono HB2.out.size)⟩

set_option maxHeartbeats 400000 in
theorem cright_any (s t f l p : Int) (w : World) (hT : Tab w) :
    Calls Tryd.prog 29 #[.agg #[.int .i64 s, .int .i64 t, .int .i64 f, .int .i64 l, .int .i64 p]] w fun e w' => e = .returned (.bool (cfgOk s t f l p)) ∧ Below w.heap.size w w' := by
  have C := hide (fun w2 (hb : Below w.heap.size w w2) => check_any s t f l p w2 (hT.below hb))
  generalize cfgOk s t f l p = ok at *
  cases ok
  · go_enter Tryd.func29, Tryd.ntmps29
    go_wp2_with fail
    have B0 := (Below.refl w.heap.size w).alloc (Nat.le_refl _) (.cells #[.int .i64 s, .int .i64 t, .int .i64 f, .int .i64 l, .int .i64 p] 23)
    refine (C.out _ B0).mono ?_
    rintro e w1 ⟨⟨v, rfl, a, rfl⟩, hb1⟩
    have B1 := B0.trans (hb1.mono B0.size)
    go_wp2_with fail
    go_ret
    exact ⟨rfl, B1⟩
  · go_enter Tryd.func29, Tryd.ntmps29
    go_wp2_with fail
    have B0 := (Below.refl w.heap.size w).alloc (Nat.le_refl _) (.cells #[.int .i64 s, .int .i64 t, .int .i64 f, .int .i64 l, .int .i64 p] 23)
    refine (C.out _ B0).mono ?_
    rintro e w1 ⟨⟨v, rfl, hv⟩, hb1⟩
    obtain rfl : v = .nilIface := hv
    have B1 := B0.trans (hb1.mono B0.size)
    go_wp2_with fail
    go_ret
    exact ⟨rfl, B1⟩
end Go.Proofs.YtgcdmgpcfdfomaaDoor
