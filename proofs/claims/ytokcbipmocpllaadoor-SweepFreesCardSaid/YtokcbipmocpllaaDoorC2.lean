/-
  Package layout: New, Config, none, Size, At, What and the words of threads and slots.
-/
import Derived.Test.YtokcbipmocpllaaDoorC1
import Derived.Deep.MidRow
import Derived.Deep.RegionLawGrows
namespace Go.Proofs.YtokcbipmocpllaaDoor
open Go.RowKit
attribute [local go_sem] past_cell past_cell_add

theorem ret_int {k : IntKind} {a b : Int} (h : a = b) : Ending.returned (.int k a) = .returned (.int k b) := by rw [h]
set_option maxHeartbeats 400000 in
theorem within_t (n m : Int) (w : World) (h0 : 0 ≤ n) (h1 : n < m) : Calls Tryd.prog 75 #[.int .i64 n, .int .i64 m] w fun e w' => e = .returned (.bool true) ∧ w = w' := by
  go_enter Tryd.func75, Tryd.ntmps75
  go_wp2_with fail
  go_ret
  exact ⟨rfl, rfl⟩
set_option maxHeartbeats 400000 in
theorem within_f (n m : Int) (w : World) (h : n < 0 ∨ m ≤ n) : Calls Tryd.prog 75 #[.int .i64 n, .int .i64 m] w fun e w' => e = .returned (.bool false) ∧ w = w' := by
  by_cases c1 : 0 ≤ n
  · have c2 : ¬ n < m := by omega
    clear h
    go_enter Tryd.func75, Tryd.ntmps75
    go_wp2_with fail
    go_ret
    exact ⟨rfl, rfl⟩
  · clear h
    go_enter Tryd.func75, Tryd.ntmps75
    go_wp2_with fail
    go_ret
    exact ⟨rfl, rfl⟩

/-- A layout's value. -/
def L5 (s t f l p : Int) : Value := .agg #[.int .i64 s, .int .i64 t, .int .i64 f, .int .i64 l, .int .i64 p]
set_option maxHeartbeats 400000 in
theorem none_no (s t f l p : Int) (w : World) (hs : 1 ≤ s) : Calls Tryd.prog 59 #[.agg #[.int .i64 s, .int .i64 t, .int .i64 f, .int .i64 l, .int .i64 p]] w fun e w' => e = .returned (.bool false) ∧ Below w.heap.size w w' := by
  have q : (s == 0) = false := by rw [beq_eq_false_iff_ne]; omega
  go_enter Tryd.func59, Tryd.ntmps59
  go_wp2_with fail
  go_ret
  exact ⟨rfl, (Below.refl _ _).alloc (Nat.le_refl _) _⟩
set_option maxHeartbeats 400000 in
theorem none_yes (w : World) : Calls Tryd.prog 59 #[.agg #[.int .i64 0, .int .i64 0, .int .i64 0, .int .i64 0, .int .i64 0]] w fun e w' => e = .returned (.bool true) ∧ Below w.heap.size w w' := by
  go_enter Tryd.func59, Tryd.ntmps59
  go_wp2_with fail
  go_ret
  exact ⟨rfl, (Below.refl _ _).alloc (Nat.le_refl _) _⟩
set_option maxHeartbeats 400000 in
theorem announces_any (s t f l p : Int) (w : World) : Calls Tryd.prog 76 #[.agg #[.int .i64 s, .int .i64 t, .int .i64 f, .int .i64 l, .int .i64 p]] w fun e w' => e = .returned (.int .i64 3) ∧ Below w.heap.size w w' := by
  go_enter Tryd.func76, Tryd.ntmps76
  go_wp2_with fail
  go_ret
  exact ⟨rfl, (Below.refl _ _).alloc (Nat.le_refl _) _⟩
set_option maxHeartbeats 400000 in
theorem width_any (s t f l p : Int) (w : World) (hf : 4 ≤ f ∧ f ≤ 64) : Calls Tryd.prog 61 #[.agg #[.int .i64 s, .int .i64 t, .int .i64 f, .int .i64 l, .int .i64 p]] w fun e w' => e = .returned (.int .i64 (3 + 2 * f)) ∧ Below w.heap.size w w' := by
  obtain ⟨h1, h2⟩ := hf
  go_enter Tryd.func61, Tryd.ntmps61
  go_wp2_with fail
  go_ret
  exact ⟨rfl, (Below.refl _ _).alloc (Nat.le_refl _) _⟩
set_option maxHeartbeats 1000000 in
theorem hazards_any (s t f l p : Int) (w : World) (ht : 1 ≤ t ∧ t ≤ 64) : Calls Tryd.prog 77 #[.agg #[.int .i64 s, .int .i64 t, .int .i64 f, .int .i64 l, .int .i64 p]] w fun e w' => e = .returned (.int .i64 (3 + t)) ∧ Below w.heap.size w w' := by
  obtain ⟨h1, h2⟩ := ht
  have h3 : IntKind.i64.wrap (3 + t) = 3 + t := IntWalk.i64_in _ (by omega)
  go_enter Tryd.func77, Tryd.ntmps77
  go_wp2_with fail
  have bx := Blk.new w 44 #[.int .i64 s, .int .i64 t, .int .i64 f, .int .i64 l, .int .i64 p]
  have lx := bx.lt
  have mx := fun i => bx.cell i
  have B0 := (Below.refl w.heap.size w).alloc (Nat.le_refl _) (.cells #[.int .i64 s, .int .i64 t, .int .i64 f, .int .i64 l, .int .i64 p] 44)
  generalize w.alloc (.cells #[.int .i64 s, .int .i64 t, .int .i64 f, .int .i64 l, .int .i64 p] 44) = w1 at *
  refine wp_region_past (by kernel_rfl) (by kernel_rfl) ?_
  repeat (quiet_step ((first | ((exact calls_past (announces_any _ _ _ _ _ _))))))
  refine wpQuiet_nil ?_
  intro _ hw'
  obtain ⟨y, hw''⟩ := hw'
  subst hw''
  have hy := past_below w1 y
  go_wp2_with fail
  go_ret
  exact ⟨rfl, B0.trans (hy.mono B0.size)⟩
set_option maxHeartbeats 1000000 in
theorem slots_any (s t f l p : Int) (w : World) (ht : 1 ≤ t ∧ t ≤ 64) : Calls Tryd.prog 60 #[.agg #[.int .i64 s, .int .i64 t, .int .i64 f, .int .i64 l, .int .i64 p]] w fun e w' => e = .returned (.int .i64 (3 + 3 * t)) ∧ Below w.heap.size w w' := by
  have H := hide (fun w => hazards_any s t f l p w ht)
  obtain ⟨h1, h2⟩ := ht
  have h4 : IntKind.i64.wrap (2 * t) = 2 * t := IntWalk.i64_in _ (by omega)
  have h3 : IntKind.i64.wrap (3 + t + 2 * t) = 3 + 3 * t := by rw [IntWalk.i64_in _ (by omega)]; omega
  go_enter Tryd.func60, Tryd.ntmps60
  go_wp2_with fail
  have bx := Blk.new w 44 #[.int .i64 s, .int .i64 t, .int .i64 f, .int .i64 l, .int .i64 p]
  have lx := bx.lt
  have mx := fun i => bx.cell i
  have B0 := (Below.refl w.heap.size w).alloc (Nat.le_refl _) (.cells #[.int .i64 s, .int .i64 t, .int .i64 f, .int .i64 l, .int .i64 p] 44)
  generalize w.alloc (.cells #[.int .i64 s, .int .i64 t, .int .i64 f, .int .i64 l, .int .i64 p] 44) = w1 at *
  refine wp_region_past (by kernel_rfl) (by kernel_rfl) ?_
  repeat (quiet_step ((first | ((exact calls_past (H.out _))))))
  refine wpQuiet_nil ?_
  intro _ hw'
  obtain ⟨y, hw''⟩ := hw'
  subst hw''
  have hy := past_below w1 y
  go_wp2_with fail
  go_ret
  exact ⟨rfl, B0.trans (hy.mono B0.size)⟩
set_option maxHeartbeats 1000000 in
theorem size_any (s t f l p : Int) (w : World) (hs : 1 ≤ s ∧ s ≤ 1000) (ht : 1 ≤ t ∧ t ≤ 64) (hf : 4 ≤ f ∧ f ≤ 64) : Calls Tryd.prog 41 #[.agg #[.int .i64 s, .int .i64 t, .int .i64 f, .int .i64 l, .int .i64 p]] w fun e w' => e = .returned (.int .i64 (laySize s t f)) ∧ Below w.heap.size w w' := by
  have N := hide (fun w => none_no s t f l p w hs.1)
  have H := hide (fun w => slots_any s t f l p w ht)
  have W := hide (fun w => width_any s t f l p w hf)
  have z := size_pos hs ht hf
  have h3 : IntKind.i64.wrap (s + 1) = s + 1 := IntWalk.i64_in _ (by omega)
  have h4 : IntKind.i64.wrap ((s + 1) * (3 + 2 * f)) = (s + 1) * (3 + 2 * f) := IntWalk.i64_in _ (by unfold laySize at z; omega)
  have h5 : IntKind.i64.wrap (3 + 3 * t + (s + 1) * (3 + 2 * f)) = laySize s t f := by unfold laySize at z ⊢; exact IntWalk.i64_in _ (by omega)
  clear z
  generalize laySize s t f = R at *
  go_enter Tryd.func41, Tryd.ntmps41
  go_wp2_with fail
  have bx := Blk.new w 44 #[.int .i64 s, .int .i64 t, .int .i64 f, .int .i64 l, .int .i64 p]
  have B0 := (Below.refl w.heap.size w).alloc (Nat.le_refl _) (.cells #[.int .i64 s, .int .i64 t, .int .i64 f, .int .i64 l, .int .i64 p] 44)
  refine (N.out _).mono ?_
  rintro e w1 ⟨rfl, hb1⟩
  replace bx := bx.below hb1 bx.lt
  replace B0 := B0.trans (hb1.mono B0.size)
  clear hb1
  have lx := bx.lt
  have mx := fun i => bx.cell i
  go_wp2_with fail
  refine wp_region_past (by kernel_rfl) (by kernel_rfl) ?_
  repeat (quiet_step ((first | ((first | (go_at_call 60; exact calls_past (H.out _)) | (go_at_call 61; exact calls_past (W.out _)))))))
  refine wpQuiet_nil ?_
  intro _ hw'
  obtain ⟨y, hw''⟩ := hw'
  subst hw''
  have hy := past_below w1 y
  go_wp2_with fail
  go_ret
  exact ⟨rfl, B0.trans (hy.mono B0.size)⟩
set_option maxHeartbeats 400000 in
theorem size_zero (w : World) : Calls Tryd.prog 41 #[.agg #[.int .i64 0, .int .i64 0, .int .i64 0, .int .i64 0, .int .i64 0]] w fun e w' => e = .returned (.int .i64 0) ∧ Below w.heap.size w w' := by
  have N := hide none_yes
  go_enter Tryd.func41, Tryd.ntmps41
  go_wp2_with fail
  have B0 := (Below.refl w.heap.size w).alloc (Nat.le_refl _) (.cells #[.int .i64 0, .int .i64 0, .int .i64 0, .int .i64 0, .int .i64 0] 44)
  refine (N.out _).mono ?_
  rintro e w1 ⟨rfl, hb1⟩
  go_wp2_with fail
  go_ret
  exact ⟨rfl, B0.trans (hb1.mono B0.size)⟩
set_option maxHeartbeats 400000 in
theorem lconfig_any (s t f l p : Int) (w : World) : Calls Tryd.prog 65 #[.agg #[.int .i64 s, .int .i64 t, .int .i64 f, .int .i64 l, .int .i64 p]] w fun e w' => e = .returned (.agg #[.int .i64 s, .int .i64 t, .int .i64 f, .int .i64 l, .int .i64 p]) ∧ Below w.heap.size w w' := by
  go_enter Tryd.func65, Tryd.ntmps65
  go_wp2_with fail
  refine bodyPost_ret (v := .agg #[.int .i64 s, .int .i64 t, .int .i64 f, .int .i64 l, .int .i64 p]) (by simp [results, Tryd.results65, go_sem]) rfl ⟨rfl, ?_⟩
  exact ((Below.refl _ _).alloc (Nat.le_refl _) _).alloc (by simp only [World.size_alloc]; omega) _
set_option maxHeartbeats 1000000 in
theorem new_yes (s t f l p : Int) (w : World) (hT : Tab w) (h : cfgOk s t f l p = true) : Calls Tryd.prog 18 #[.agg #[.int .i64 s, .int .i64 t, .int .i64 f, .int .i64 l, .int .i64 p]] w fun e w' => e = .returned (.agg #[.int .i64 s, .int .i64 t, .int .i64 f, .int .i64 l, .int .i64 p]) ∧ Below w.heap.size w w' := by
  have R := hide (fun w2 (hb : Below w.heap.size w w2) => cright_any s t f l p w2 (hT.below hb))
  rw [h] at R
  clear h
  go_enter Tryd.func18, Tryd.ntmps18
  go_wp2_with fail
  have bx := Blk.new w 36 #[.int .i64 s, .int .i64 t, .int .i64 f, .int .i64 l, .int .i64 p]
  have B0 := (Below.refl w.heap.size w).alloc (Nat.le_refl _) (.cells #[.int .i64 s, .int .i64 t, .int .i64 f, .int .i64 l, .int .i64 p] 36)
  have bo := Blk.new (w.alloc (.cells #[.int .i64 s, .int .i64 t, .int .i64 f, .int .i64 l, .int .i64 p] 36)) 44 #[.int .i64 0, .int .i64 0, .int .i64 0, .int .i64 0, .int .i64 0]
  replace bx := bx.alloc (.cells #[.int .i64 0, .int .i64 0, .int .i64 0, .int .i64 0, .int .i64 0] 44)
  replace B0 := B0.alloc B0.size (.cells #[.int .i64 0, .int .i64 0, .int .i64 0, .int .i64 0, .int .i64 0] 44)
  rw [World.size_alloc] at bo
  refine (R.out _ B0).mono ?_
  rintro e w1 ⟨rfl, hb1⟩
  replace bx := bx.below hb1 bx.lt
  replace bo := bo.below hb1 bo.lt
  replace B0 := B0.trans (hb1.mono B0.size)
  clear hb1
  have mx := fun i => bx.cell i
  have mo := fun i => bo.cell i
  have zo := fun i => bo.frozen i
  go_wp2_with fail
  have b9 := ((((bo.set_ 0 (.int .i64 s)).set_ 1 (.int .i64 t)).set_ 2 (.int .i64 f)).set_ 3 (.int .i64 l)).set_ 4 (.int .i64 p)
  simp only [List.setIfInBounds_toArray, List.set_cons_zero, List.set_cons_succ] at b9
  have B9 := ((((B0.setCell (p := ⟨w.heap.size + 1, 0, none⟩) (by show w.heap.size ≤ w.heap.size + 1; omega) (.int .i64 s)).setCell (p := ⟨w.heap.size + 1, 1, none⟩) (by show w.heap.size ≤ w.heap.size + 1; omega) (.int .i64 t)).setCell (p := ⟨w.heap.size + 1, 2, none⟩) (by show w.heap.size ≤ w.heap.size + 1; omega) (.int .i64 f)).setCell (p := ⟨w.heap.size + 1, 3, none⟩) (by show w.heap.size ≤ w.heap.size + 1; omega) (.int .i64 l)).setCell (p := ⟨w.heap.size + 1, 4, none⟩) (by show w.heap.size ≤ w.heap.size + 1; omega) (.int .i64 p)
  have m9 := fun i => b9.cell i
  refine bodyPost_ret (v := .agg #[.int .i64 s, .int .i64 t, .int .i64 f, .int .i64 l, .int .i64 p]) (by simp [results, Tryd.results18, go_sem, m9]) rfl ⟨rfl, B9⟩
set_option maxHeartbeats 1000000 in
theorem new_no (s t f l p : Int) (w : World) (hT : Tab w) (h : cfgOk s t f l p = false) : Calls Tryd.prog 18 #[.agg #[.int .i64 s, .int .i64 t, .int .i64 f, .int .i64 l, .int .i64 p]] w fun e w' => e = .returned (.agg #[.int .i64 0, .int .i64 0, .int .i64 0, .int .i64 0, .int .i64 0]) ∧ Below w.heap.size w w' := by
  have R := hide (fun w2 (hb : Below w.heap.size w w2) => cright_any s t f l p w2 (hT.below hb))
  rw [h] at R
  clear h
  go_enter Tryd.func18, Tryd.ntmps18
  go_wp2_with fail
  have bx := Blk.new w 36 #[.int .i64 s, .int .i64 t, .int .i64 f, .int .i64 l, .int .i64 p]
  have B0 := (Below.refl w.heap.size w).alloc (Nat.le_refl _) (.cells #[.int .i64 s, .int .i64 t, .int .i64 f, .int .i64 l, .int .i64 p] 36)
  have bo := Blk.new (w.alloc (.cells #[.int .i64 s, .int .i64 t, .int .i64 f, .int .i64 l, .int .i64 p] 36)) 44 #[.int .i64 0, .int .i64 0, .int .i64 0, .int .i64 0, .int .i64 0]
  replace bx := bx.alloc (.cells #[.int .i64 0, .int .i64 0, .int .i64 0, .int .i64 0, .int .i64 0] 44)
  replace B0 := B0.alloc B0.size (.cells #[.int .i64 0, .int .i64 0, .int .i64 0, .int .i64 0, .int .i64 0] 44)
  rw [World.size_alloc] at bo
  refine (R.out _ B0).mono ?_
  rintro e w1 ⟨rfl, hb1⟩
  replace bx := bx.below hb1 bx.lt
  replace bo := bo.below hb1 bo.lt
  replace B0 := B0.trans (hb1.mono B0.size)
  clear hb1
  have mx := fun i => bx.cell i
  have mo := fun i => bo.cell i
  have zo := fun i => bo.frozen i
  go_wp2_with fail
  have b9 := ((((bo.set_ 0 (.int .i64 0)).set_ 1 (.int .i64 0)).set_ 2 (.int .i64 0)).set_ 3 (.int .i64 0)).set_ 4 (.int .i64 0)
  simp only [List.setIfInBounds_toArray, List.set_cons_zero, List.set_cons_succ] at b9
  have B9 := ((((B0.setCell (p := ⟨w.heap.size + 1, 0, none⟩) (by show w.heap.size ≤ w.heap.size + 1; omega) (.int .i64 0)).setCell (p := ⟨w.heap.size + 1, 1, none⟩) (by show w.heap.size ≤ w.heap.size + 1; omega) (.int .i64 0)).setCell (p := ⟨w.heap.size + 1, 2, none⟩) (by show w.heap.size ≤ w.heap.size + 1; omega) (.int .i64 0)).setCell (p := ⟨w.heap.size + 1, 3, none⟩) (by show w.heap.size ≤ w.heap.size + 1; omega) (.int .i64 0)).setCell (p := ⟨w.heap.size + 1, 4, none⟩) (by show w.heap.size ≤ w.heap.size + 1; omega) (.int .i64 0)
  have m9 := fun i => b9.cell i
  refine bodyPost_ret (v := .agg #[.int .i64 0, .int .i64 0, .int .i64 0, .int .i64 0, .int .i64 0]) (by simp [results, Tryd.results18, go_sem, m9]) rfl ⟨rfl, B9⟩
end Go.Proofs.YtokcbipmocpllaaDoor

/-
  Package layout: node, At.
-/
namespace Go.Proofs.YtokcbipmocpllaaDoor
open Go.RowKit
attribute [local go_sem] past_cell past_cell_add

set_option maxHeartbeats 1000000 in
theorem node_yes6 (s t f l p o i : Int) (w : World) (hs : 1 ≤ s ∧ s ≤ 1000) (ht : 1 ≤ t ∧ t ≤ 64) (hf : 4 ≤ f ∧ f ≤ 64) (ho : 0 ≤ o ∧ o < s + 1) (hi : 0 ≤ i ∧ i < 1) :
    Calls Tryd.prog 78 #[.agg #[.int .i64 s, .int .i64 t, .int .i64 f, .int .i64 l, .int .i64 p], .agg #[.int .i64 6, .int .i64 o, .int .i64 i]] w fun e w' => e = .returned (.int .i64 (3 + 3 * t + o * (3 + 2 * f) + i)) ∧ Below w.heap.size w w' := by
  have W1 := hide (fun w => within_t o (s + 1) w ho.1 ho.2)
  have W2 := hide (fun w => within_t i (1) w hi.1 hi.2)
  have H := hide (fun w => slots_any s t f l p w ht)
  have W := hide (fun w => width_any s t f l p w hf)
  have b1 : 0 ≤ o * (3 + 2 * f) := Int.mul_nonneg ho.1 (by omega)
  have b2 : o * (3 + 2 * f) ≤ 1000 * 131 := Int.mul_le_mul (by omega) (by omega) (by omega) (by omega)
  have h3 : IntKind.i64.wrap (o * (3 + 2 * f)) = o * (3 + 2 * f) := IntWalk.i64_in _ (by omega)
  have h4 : IntKind.i64.wrap (3 + 3 * t + o * (3 + 2 * f)) = 3 + 3 * t + o * (3 + 2 * f) := IntWalk.i64_in _ (by omega)
  have h5 : IntKind.i64.wrap (3 + 3 * t + o * (3 + 2 * f)) = 3 + 3 * t + o * (3 + 2 * f) := IntWalk.i64_in _ (by omega)
  have h6 : IntKind.i64.wrap (3 + 3 * t + o * (3 + 2 * f) + i) = 3 + 3 * t + o * (3 + 2 * f) + i := IntWalk.i64_in _ (by omega)
  have h7 : IntKind.i64.wrap (3 + f) = 3 + f := IntWalk.i64_in _ (by omega)
  obtain ⟨s1, s2⟩ := hs
  clear ho hi ht b1 b2
  go_enter Tryd.func78, Tryd.ntmps78
  go_wp2_with fail
  have bx := Blk.new w 44 #[.int .i64 s, .int .i64 t, .int .i64 f, .int .i64 l, .int .i64 p]
  have B0 := (Below.refl w.heap.size w).alloc (Nat.le_refl _) (.cells #[.int .i64 s, .int .i64 t, .int .i64 f, .int .i64 l, .int .i64 p] 44)
  have bo := Blk.new (w.alloc (.cells #[.int .i64 s, .int .i64 t, .int .i64 f, .int .i64 l, .int .i64 p] 44)) 86 #[.int .i64 6, .int .i64 o, .int .i64 i]
  replace bx := bx.alloc (.cells #[.int .i64 6, .int .i64 o, .int .i64 i] 86)
  replace B0 := B0.alloc B0.size (.cells #[.int .i64 6, .int .i64 o, .int .i64 i] 86)
  rw [World.size_alloc] at bo
  have lx := bx.lt
  have lo := bo.lt
  have mx := fun i => bx.cell i
  have mo := fun i => bo.cell i
  generalize (w.alloc (.cells #[.int .i64 s, .int .i64 t, .int .i64 f, .int .i64 l, .int .i64 p] 44)).alloc (.cells #[.int .i64 6, .int .i64 o, .int .i64 i] 86) = w1 at *
  refine (W1.out _).mono ?_
  rintro e w' ⟨rfl, rfl⟩
  go_wp2_with fail
  refine (W2.out _).mono ?_
  rintro e w' ⟨rfl, rfl⟩
  go_wp2_with fail
  refine wp_region_past (by kernel_rfl) (by kernel_rfl) ?_
  repeat (quiet_step ((first | ((first | (go_at_call 60; exact calls_past (H.out _)) | (go_at_call 61; exact calls_past (W.out _)))))))
  refine wpQuiet_nil ?_
  intro _ hw'
  obtain ⟨y, hw''⟩ := hw'
  subst hw''
  have hy := past_below w1 y
  go_wp2_with fail
  go_ret
  exact ⟨ret_int (by omega), B0.trans (hy.mono B0.size)⟩
set_option maxHeartbeats 1000000 in
theorem node_yes7 (s t f l p o i : Int) (w : World) (hs : 1 ≤ s ∧ s ≤ 1000) (ht : 1 ≤ t ∧ t ≤ 64) (hf : 4 ≤ f ∧ f ≤ 64) (ho : 0 ≤ o ∧ o < s + 1) (hi : 0 ≤ i ∧ i < 1) :
    Calls Tryd.prog 78 #[.agg #[.int .i64 s, .int .i64 t, .int .i64 f, .int .i64 l, .int .i64 p], .agg #[.int .i64 7, .int .i64 o, .int .i64 i]] w fun e w' => e = .returned (.int .i64 (3 + 3 * t + o * (3 + 2 * f)+ 1 + i)) ∧ Below w.heap.size w w' := by
  have W1 := hide (fun w => within_t o (s + 1) w ho.1 ho.2)
  have W2 := hide (fun w => within_t i (1) w hi.1 hi.2)
  have H := hide (fun w => slots_any s t f l p w ht)
  have W := hide (fun w => width_any s t f l p w hf)
  have b1 : 0 ≤ o * (3 + 2 * f) := Int.mul_nonneg ho.1 (by omega)
  have b2 : o * (3 + 2 * f) ≤ 1000 * 131 := Int.mul_le_mul (by omega) (by omega) (by omega) (by omega)
  have h3 : IntKind.i64.wrap (o * (3 + 2 * f)) = o * (3 + 2 * f) := IntWalk.i64_in _ (by omega)
  have h4 : IntKind.i64.wrap (3 + 3 * t + o * (3 + 2 * f)) = 3 + 3 * t + o * (3 + 2 * f) := IntWalk.i64_in _ (by omega)
  have h5 : IntKind.i64.wrap (3 + 3 * t + o * (3 + 2 * f)+ 1) = 3 + 3 * t + o * (3 + 2 * f)+ 1 := IntWalk.i64_in _ (by omega)
  have h6 : IntKind.i64.wrap (3 + 3 * t + o * (3 + 2 * f)+ 1 + i) = 3 + 3 * t + o * (3 + 2 * f)+ 1 + i := IntWalk.i64_in _ (by omega)
  have h7 : IntKind.i64.wrap (3 + f) = 3 + f := IntWalk.i64_in _ (by omega)
  obtain ⟨s1, s2⟩ := hs
  clear ho hi ht b1 b2
  go_enter Tryd.func78, Tryd.ntmps78
  go_wp2_with fail
  have bx := Blk.new w 44 #[.int .i64 s, .int .i64 t, .int .i64 f, .int .i64 l, .int .i64 p]
  have B0 := (Below.refl w.heap.size w).alloc (Nat.le_refl _) (.cells #[.int .i64 s, .int .i64 t, .int .i64 f, .int .i64 l, .int .i64 p] 44)
  have bo := Blk.new (w.alloc (.cells #[.int .i64 s, .int .i64 t, .int .i64 f, .int .i64 l, .int .i64 p] 44)) 86 #[.int .i64 7, .int .i64 o, .int .i64 i]
  replace bx := bx.alloc (.cells #[.int .i64 7, .int .i64 o, .int .i64 i] 86)
  replace B0 := B0.alloc B0.size (.cells #[.int .i64 7, .int .i64 o, .int .i64 i] 86)
  rw [World.size_alloc] at bo
  have lx := bx.lt
  have lo := bo.lt
  have mx := fun i => bx.cell i
  have mo := fun i => bo.cell i
  generalize (w.alloc (.cells #[.int .i64 s, .int .i64 t, .int .i64 f, .int .i64 l, .int .i64 p] 44)).alloc (.cells #[.int .i64 7, .int .i64 o, .int .i64 i] 86) = w1 at *
  refine (W1.out _).mono ?_
  rintro e w' ⟨rfl, rfl⟩
  go_wp2_with fail
  refine (W2.out _).mono ?_
  rintro e w' ⟨rfl, rfl⟩
  go_wp2_with fail
  refine wp_region_past (by kernel_rfl) (by kernel_rfl) ?_
  repeat (quiet_step ((first | ((first | (go_at_call 60; exact calls_past (H.out _)) | (go_at_call 61; exact calls_past (W.out _)))))))
  refine wpQuiet_nil ?_
  intro _ hw'
  obtain ⟨y, hw''⟩ := hw'
  subst hw''
  have hy := past_below w1 y
  go_wp2_with fail
  go_ret
  exact ⟨ret_int (by omega), B0.trans (hy.mono B0.size)⟩
set_option maxHeartbeats 1000000 in
theorem node_yes8 (s t f l p o i : Int) (w : World) (hs : 1 ≤ s ∧ s ≤ 1000) (ht : 1 ≤ t ∧ t ≤ 64) (hf : 4 ≤ f ∧ f ≤ 64) (ho : 0 ≤ o ∧ o < s + 1) (hi : 0 ≤ i ∧ i < 1) :
    Calls Tryd.prog 78 #[.agg #[.int .i64 s, .int .i64 t, .int .i64 f, .int .i64 l, .int .i64 p], .agg #[.int .i64 8, .int .i64 o, .int .i64 i]] w fun e w' => e = .returned (.int .i64 (3 + 3 * t + o * (3 + 2 * f)+ 2 + i)) ∧ Below w.heap.size w w' := by
  have W1 := hide (fun w => within_t o (s + 1) w ho.1 ho.2)
  have W2 := hide (fun w => within_t i (1) w hi.1 hi.2)
  have H := hide (fun w => slots_any s t f l p w ht)
  have W := hide (fun w => width_any s t f l p w hf)
  have b1 : 0 ≤ o * (3 + 2 * f) := Int.mul_nonneg ho.1 (by omega)
  have b2 : o * (3 + 2 * f) ≤ 1000 * 131 := Int.mul_le_mul (by omega) (by omega) (by omega) (by omega)
  have h3 : IntKind.i64.wrap (o * (3 + 2 * f)) = o * (3 + 2 * f) := IntWalk.i64_in _ (by omega)
  have h4 : IntKind.i64.wrap (3 + 3 * t + o * (3 + 2 * f)) = 3 + 3 * t + o * (3 + 2 * f) := IntWalk.i64_in _ (by omega)
  have h5 : IntKind.i64.wrap (3 + 3 * t + o * (3 + 2 * f)+ 2) = 3 + 3 * t + o * (3 + 2 * f)+ 2 := IntWalk.i64_in _ (by omega)
  have h6 : IntKind.i64.wrap (3 + 3 * t + o * (3 + 2 * f)+ 2 + i) = 3 + 3 * t + o * (3 + 2 * f)+ 2 + i := IntWalk.i64_in _ (by omega)
  have h7 : IntKind.i64.wrap (3 + f) = 3 + f := IntWalk.i64_in _ (by omega)
  obtain ⟨s1, s2⟩ := hs
  clear ho hi ht b1 b2
  go_enter Tryd.func78, Tryd.ntmps78
  go_wp2_with fail
  have bx := Blk.new w 44 #[.int .i64 s, .int .i64 t, .int .i64 f, .int .i64 l, .int .i64 p]
  have B0 := (Below.refl w.heap.size w).alloc (Nat.le_refl _) (.cells #[.int .i64 s, .int .i64 t, .int .i64 f, .int .i64 l, .int .i64 p] 44)
  have bo := Blk.new (w.alloc (.cells #[.int .i64 s, .int .i64 t, .int .i64 f, .int .i64 l, .int .i64 p] 44)) 86 #[.int .i64 8, .int .i64 o, .int .i64 i]
  replace bx := bx.alloc (.cells #[.int .i64 8, .int .i64 o, .int .i64 i] 86)
  replace B0 := B0.alloc B0.size (.cells #[.int .i64 8, .int .i64 o, .int .i64 i] 86)
  rw [World.size_alloc] at bo
  have lx := bx.lt
  have lo := bo.lt
  have mx := fun i => bx.cell i
  have mo := fun i => bo.cell i
  generalize (w.alloc (.cells #[.int .i64 s, .int .i64 t, .int .i64 f, .int .i64 l, .int .i64 p] 44)).alloc (.cells #[.int .i64 8, .int .i64 o, .int .i64 i] 86) = w1 at *
  refine (W1.out _).mono ?_
  rintro e w' ⟨rfl, rfl⟩
  go_wp2_with fail
  refine (W2.out _).mono ?_
  rintro e w' ⟨rfl, rfl⟩
  go_wp2_with fail
  refine wp_region_past (by kernel_rfl) (by kernel_rfl) ?_
  repeat (quiet_step ((first | ((first | (go_at_call 60; exact calls_past (H.out _)) | (go_at_call 61; exact calls_past (W.out _)))))))
  refine wpQuiet_nil ?_
  intro _ hw'
  obtain ⟨y, hw''⟩ := hw'
  subst hw''
  have hy := past_below w1 y
  go_wp2_with fail
  go_ret
  exact ⟨ret_int (by omega), B0.trans (hy.mono B0.size)⟩
set_option maxHeartbeats 1000000 in
theorem node_yes9 (s t f l p o i : Int) (w : World) (hs : 1 ≤ s ∧ s ≤ 1000) (ht : 1 ≤ t ∧ t ≤ 64) (hf : 4 ≤ f ∧ f ≤ 64) (ho : 0 ≤ o ∧ o < s + 1) (hi : 0 ≤ i ∧ i < f) :
    Calls Tryd.prog 78 #[.agg #[.int .i64 s, .int .i64 t, .int .i64 f, .int .i64 l, .int .i64 p], .agg #[.int .i64 9, .int .i64 o, .int .i64 i]] w fun e w' => e = .returned (.int .i64 (3 + 3 * t + o * (3 + 2 * f)+ 3 + i)) ∧ Below w.heap.size w w' := by
  have W1 := hide (fun w => within_t o (s + 1) w ho.1 ho.2)
  have W2 := hide (fun w => within_t i (f) w hi.1 hi.2)
  have H := hide (fun w => slots_any s t f l p w ht)
  have W := hide (fun w => width_any s t f l p w hf)
  have b1 : 0 ≤ o * (3 + 2 * f) := Int.mul_nonneg ho.1 (by omega)
  have b2 : o * (3 + 2 * f) ≤ 1000 * 131 := Int.mul_le_mul (by omega) (by omega) (by omega) (by omega)
  have h3 : IntKind.i64.wrap (o * (3 + 2 * f)) = o * (3 + 2 * f) := IntWalk.i64_in _ (by omega)
  have h4 : IntKind.i64.wrap (3 + 3 * t + o * (3 + 2 * f)) = 3 + 3 * t + o * (3 + 2 * f) := IntWalk.i64_in _ (by omega)
  have h5 : IntKind.i64.wrap (3 + 3 * t + o * (3 + 2 * f)+ 3) = 3 + 3 * t + o * (3 + 2 * f)+ 3 := IntWalk.i64_in _ (by omega)
  have h6 : IntKind.i64.wrap (3 + 3 * t + o * (3 + 2 * f)+ 3 + i) = 3 + 3 * t + o * (3 + 2 * f)+ 3 + i := IntWalk.i64_in _ (by omega)
  have h7 : IntKind.i64.wrap (3 + f) = 3 + f := IntWalk.i64_in _ (by omega)
  obtain ⟨s1, s2⟩ := hs
  clear ho hi ht b1 b2
  go_enter Tryd.func78, Tryd.ntmps78
  go_wp2_with fail
  have bx := Blk.new w 44 #[.int .i64 s, .int .i64 t, .int .i64 f, .int .i64 l, .int .i64 p]
  have B0 := (Below.refl w.heap.size w).alloc (Nat.le_refl _) (.cells #[.int .i64 s, .int .i64 t, .int .i64 f, .int .i64 l, .int .i64 p] 44)
  have bo := Blk.new (w.alloc (.cells #[.int .i64 s, .int .i64 t, .int .i64 f, .int .i64 l, .int .i64 p] 44)) 86 #[.int .i64 9, .int .i64 o, .int .i64 i]
  replace bx := bx.alloc (.cells #[.int .i64 9, .int .i64 o, .int .i64 i] 86)
  replace B0 := B0.alloc B0.size (.cells #[.int .i64 9, .int .i64 o, .int .i64 i] 86)
  rw [World.size_alloc] at bo
  have lx := bx.lt
  have lo := bo.lt
  have mx := fun i => bx.cell i
  have mo := fun i => bo.cell i
  generalize (w.alloc (.cells #[.int .i64 s, .int .i64 t, .int .i64 f, .int .i64 l, .int .i64 p] 44)).alloc (.cells #[.int .i64 9, .int .i64 o, .int .i64 i] 86) = w1 at *
  refine wp_region_past (by kernel_rfl) (by kernel_rfl) ?_
  repeat (quiet_step ((first | fail)))
  refine wpQuiet_nil ?_
  intro _ hw'
  obtain ⟨y, hw''⟩ := hw'
  subst hw''
  have hy := past_below w1 y
  replace bx := bx.below hy bx.lt
  replace bo := bo.below hy bo.lt
  replace B0 := B0.trans (hy.mono B0.size)
  clear hy mx mo lx lo
  generalize past w1 y = w2 at *
  have lx := bx.lt
  have lo := bo.lt
  have mx := fun i => bx.cell i
  have mo := fun i => bo.cell i
  go_wp2_with fail
  refine (W1.out _).mono ?_
  rintro e w' ⟨rfl, rfl⟩
  go_wp2_with fail
  refine (W2.out _).mono ?_
  rintro e w' ⟨rfl, rfl⟩
  go_wp2_with fail
  refine wp_region_past (by kernel_rfl) (by kernel_rfl) ?_
  repeat (quiet_step ((first | ((first | (go_at_call 60; exact calls_past (H.out _)) | (go_at_call 61; exact calls_past (W.out _)))))))
  refine wpQuiet_nil ?_
  intro _ hw'
  obtain ⟨y, hw''⟩ := hw'
  subst hw''
  have hy := past_below w2 y
  go_wp2_with fail
  go_ret
  exact ⟨ret_int (by omega), B0.trans (hy.mono B0.size)⟩
set_option maxHeartbeats 1000000 in
theorem node_yes10 (s t f l p o i : Int) (w : World) (hs : 1 ≤ s ∧ s ≤ 1000) (ht : 1 ≤ t ∧ t ≤ 64) (hf : 4 ≤ f ∧ f ≤ 64) (ho : 0 ≤ o ∧ o < s + 1) (hi : 0 ≤ i ∧ i < f) :
    Calls Tryd.prog 78 #[.agg #[.int .i64 s, .int .i64 t, .int .i64 f, .int .i64 l, .int .i64 p], .agg #[.int .i64 10, .int .i64 o, .int .i64 i]] w fun e w' => e = .returned (.int .i64 (3 + 3 * t + o * (3 + 2 * f)+ (3 + f) + i)) ∧ Below w.heap.size w w' := by
  have W1 := hide (fun w => within_t o (s + 1) w ho.1 ho.2)
  have W2 := hide (fun w => within_t i (f) w hi.1 hi.2)
  have H := hide (fun w => slots_any s t f l p w ht)
  have W := hide (fun w => width_any s t f l p w hf)
  have b1 : 0 ≤ o * (3 + 2 * f) := Int.mul_nonneg ho.1 (by omega)
  have b2 : o * (3 + 2 * f) ≤ 1000 * 131 := Int.mul_le_mul (by omega) (by omega) (by omega) (by omega)
  have h3 : IntKind.i64.wrap (o * (3 + 2 * f)) = o * (3 + 2 * f) := IntWalk.i64_in _ (by omega)
  have h4 : IntKind.i64.wrap (3 + 3 * t + o * (3 + 2 * f)) = 3 + 3 * t + o * (3 + 2 * f) := IntWalk.i64_in _ (by omega)
  have h5 : IntKind.i64.wrap (3 + 3 * t + o * (3 + 2 * f)+ (3 + f)) = 3 + 3 * t + o * (3 + 2 * f)+ (3 + f) := IntWalk.i64_in _ (by omega)
  have h6 : IntKind.i64.wrap (3 + 3 * t + o * (3 + 2 * f)+ (3 + f) + i) = 3 + 3 * t + o * (3 + 2 * f)+ (3 + f) + i := IntWalk.i64_in _ (by omega)
  have h7 : IntKind.i64.wrap (3 + f) = 3 + f := IntWalk.i64_in _ (by omega)
  obtain ⟨s1, s2⟩ := hs
  clear ho hi ht b1 b2
  go_enter Tryd.func78, Tryd.ntmps78
  go_wp2_with fail
  have bx := Blk.new w 44 #[.int .i64 s, .int .i64 t, .int .i64 f, .int .i64 l, .int .i64 p]
  have B0 := (Below.refl w.heap.size w).alloc (Nat.le_refl _) (.cells #[.int .i64 s, .int .i64 t, .int .i64 f, .int .i64 l, .int .i64 p] 44)
  have bo := Blk.new (w.alloc (.cells #[.int .i64 s, .int .i64 t, .int .i64 f, .int .i64 l, .int .i64 p] 44)) 86 #[.int .i64 10, .int .i64 o, .int .i64 i]
  replace bx := bx.alloc (.cells #[.int .i64 10, .int .i64 o, .int .i64 i] 86)
  replace B0 := B0.alloc B0.size (.cells #[.int .i64 10, .int .i64 o, .int .i64 i] 86)
  rw [World.size_alloc] at bo
  have lx := bx.lt
  have lo := bo.lt
  have mx := fun i => bx.cell i
  have mo := fun i => bo.cell i
  generalize (w.alloc (.cells #[.int .i64 s, .int .i64 t, .int .i64 f, .int .i64 l, .int .i64 p] 44)).alloc (.cells #[.int .i64 10, .int .i64 o, .int .i64 i] 86) = w1 at *
  refine wp_region_past (by kernel_rfl) (by kernel_rfl) ?_
  repeat (quiet_step ((first | fail)))
  refine wpQuiet_nil ?_
  intro _ hw'
  obtain ⟨y, hw''⟩ := hw'
  subst hw''
  have hy := past_below w1 y
  replace bx := bx.below hy bx.lt
  replace bo := bo.below hy bo.lt
  replace B0 := B0.trans (hy.mono B0.size)
  clear hy mx mo lx lo
  generalize past w1 y = w2 at *
  have lx := bx.lt
  have lo := bo.lt
  have mx := fun i => bx.cell i
  have mo := fun i => bo.cell i
  go_wp2_with fail
  refine (W1.out _).mono ?_
  rintro e w' ⟨rfl, rfl⟩
  go_wp2_with fail
  refine (W2.out _).mono ?_
  rintro e w' ⟨rfl, rfl⟩
  go_wp2_with fail
  refine wp_region_past (by kernel_rfl) (by kernel_rfl) ?_
  repeat (quiet_step ((first | ((first | (go_at_call 60; exact calls_past (H.out _)) | (go_at_call 61; exact calls_past (W.out _)))))))
  refine wpQuiet_nil ?_
  intro _ hw'
  obtain ⟨y, hw''⟩ := hw'
  subst hw''
  have hy := past_below w2 y
  go_wp2_with fail
  go_ret
  exact ⟨ret_int (by omega), B0.trans (hy.mono B0.size)⟩

set_option maxHeartbeats 1000000 in
theorem node_no6 (s t f l p o i : Int) (w : World) (hs : 1 ≤ s ∧ s ≤ 1000) (hf : 4 ≤ f ∧ f ≤ 64) (h : o < 0 ∨ s + 1 ≤ o ∨ i < 0 ∨ 1 ≤ i) :
    Calls Tryd.prog 78 #[.agg #[.int .i64 s, .int .i64 t, .int .i64 f, .int .i64 l, .int .i64 p], .agg #[.int .i64 6, .int .i64 o, .int .i64 i]] w fun e w' => e = .returned (.int .i64 (-1)) ∧ Below w.heap.size w w' := by
  have h7 : IntKind.i64.wrap (3 + f) = 3 + f := IntWalk.i64_in _ (by omega)
  obtain ⟨s1, s2⟩ := hs
  by_cases c : o < 0 ∨ s + 1 ≤ o
  · have W1 := hide (fun w => within_f o (s + 1) w c)
    clear h c
    go_enter Tryd.func78, Tryd.ntmps78
    go_wp2_with fail
    have bx := Blk.new w 44 #[.int .i64 s, .int .i64 t, .int .i64 f, .int .i64 l, .int .i64 p]
    have B0 := (Below.refl w.heap.size w).alloc (Nat.le_refl _) (.cells #[.int .i64 s, .int .i64 t, .int .i64 f, .int .i64 l, .int .i64 p] 44)
    have bo := Blk.new (w.alloc (.cells #[.int .i64 s, .int .i64 t, .int .i64 f, .int .i64 l, .int .i64 p] 44)) 86 #[.int .i64 6, .int .i64 o, .int .i64 i]
    replace bx := bx.alloc (.cells #[.int .i64 6, .int .i64 o, .int .i64 i] 86)
    replace B0 := B0.alloc B0.size (.cells #[.int .i64 6, .int .i64 o, .int .i64 i] 86)
    rw [World.size_alloc] at bo
    have lx := bx.lt
    have lo := bo.lt
    have mx := fun i => bx.cell i
    have mo := fun i => bo.cell i
    generalize (w.alloc (.cells #[.int .i64 s, .int .i64 t, .int .i64 f, .int .i64 l, .int .i64 p] 44)).alloc (.cells #[.int .i64 6, .int .i64 o, .int .i64 i] 86) = w1 at *

    refine (W1.out _).mono ?_
    rintro e w' ⟨rfl, rfl⟩
    go_wp2_with fail
    go_ret
    exact ⟨rfl, B0⟩
  · have W1 := hide (fun w => within_t o (s + 1) w (by omega) (by omega))
    have W2 := hide (fun w => within_f i (1) w (by omega))
    clear h c
    go_enter Tryd.func78, Tryd.ntmps78
    go_wp2_with fail
    have bx := Blk.new w 44 #[.int .i64 s, .int .i64 t, .int .i64 f, .int .i64 l, .int .i64 p]
    have B0 := (Below.refl w.heap.size w).alloc (Nat.le_refl _) (.cells #[.int .i64 s, .int .i64 t, .int .i64 f, .int .i64 l, .int .i64 p] 44)
    have bo := Blk.new (w.alloc (.cells #[.int .i64 s, .int .i64 t, .int .i64 f, .int .i64 l, .int .i64 p] 44)) 86 #[.int .i64 6, .int .i64 o, .int .i64 i]
    replace bx := bx.alloc (.cells #[.int .i64 6, .int .i64 o, .int .i64 i] 86)
    replace B0 := B0.alloc B0.size (.cells #[.int .i64 6, .int .i64 o, .int .i64 i] 86)
    rw [World.size_alloc] at bo
    have lx := bx.lt
    have lo := bo.lt
    have mx := fun i => bx.cell i
    have mo := fun i => bo.cell i
    generalize (w.alloc (.cells #[.int .i64 s, .int .i64 t, .int .i64 f, .int .i64 l, .int .i64 p] 44)).alloc (.cells #[.int .i64 6, .int .i64 o, .int .i64 i] 86) = w1 at *

    refine (W1.out _).mono ?_
    rintro e w' ⟨rfl, rfl⟩
    go_wp2_with fail
    refine (W2.out _).mono ?_
    rintro e w' ⟨rfl, rfl⟩
    go_wp2_with fail
    go_ret
    exact ⟨rfl, B0⟩
set_option maxHeartbeats 1000000 in
theorem node_no7 (s t f l p o i : Int) (w : World) (hs : 1 ≤ s ∧ s ≤ 1000) (hf : 4 ≤ f ∧ f ≤ 64) (h : o < 0 ∨ s + 1 ≤ o ∨ i < 0 ∨ 1 ≤ i) :
    Calls Tryd.prog 78 #[.agg #[.int .i64 s, .int .i64 t, .int .i64 f, .int .i64 l, .int .i64 p], .agg #[.int .i64 7, .int .i64 o, .int .i64 i]] w fun e w' => e = .returned (.int .i64 (-1)) ∧ Below w.heap.size w w' := by
  have h7 : IntKind.i64.wrap (3 + f) = 3 + f := IntWalk.i64_in _ (by omega)
  obtain ⟨s1, s2⟩ := hs
  by_cases c : o < 0 ∨ s + 1 ≤ o
  · have W1 := hide (fun w => within_f o (s + 1) w c)
    clear h c
    go_enter Tryd.func78, Tryd.ntmps78
    go_wp2_with fail
    have bx := Blk.new w 44 #[.int .i64 s, .int .i64 t, .int .i64 f, .int .i64 l, .int .i64 p]
    have B0 := (Below.refl w.heap.size w).alloc (Nat.le_refl _) (.cells #[.int .i64 s, .int .i64 t, .int .i64 f, .int .i64 l, .int .i64 p] 44)
    have bo := Blk.new (w.alloc (.cells #[.int .i64 s, .int .i64 t, .int .i64 f, .int .i64 l, .int .i64 p] 44)) 86 #[.int .i64 7, .int .i64 o, .int .i64 i]
    replace bx := bx.alloc (.cells #[.int .i64 7, .int .i64 o, .int .i64 i] 86)
    replace B0 := B0.alloc B0.size (.cells #[.int .i64 7, .int .i64 o, .int .i64 i] 86)
    rw [World.size_alloc] at bo
    have lx := bx.lt
    have lo := bo.lt
    have mx := fun i => bx.cell i
    have mo := fun i => bo.cell i
    generalize (w.alloc (.cells #[.int .i64 s, .int .i64 t, .int .i64 f, .int .i64 l, .int .i64 p] 44)).alloc (.cells #[.int .i64 7, .int .i64 o, .int .i64 i] 86) = w1 at *

    refine (W1.out _).mono ?_
    rintro e w' ⟨rfl, rfl⟩
    go_wp2_with fail
    go_ret
    exact ⟨rfl, B0⟩
  · have W1 := hide (fun w => within_t o (s + 1) w (by omega) (by omega))
    have W2 := hide (fun w => within_f i (1) w (by omega))
    clear h c
    go_enter Tryd.func78, Tryd.ntmps78
    go_wp2_with fail
    have bx := Blk.new w 44 #[.int .i64 s, .int .i64 t, .int .i64 f, .int .i64 l, .int .i64 p]
    have B0 := (Below.refl w.heap.size w).alloc (Nat.le_refl _) (.cells #[.int .i64 s, .int .i64 t, .int .i64 f, .int .i64 l, .int .i64 p] 44)
    have bo := Blk.new (w.alloc (.cells #[.int .i64 s, .int .i64 t, .int .i64 f, .int .i64 l, .int .i64 p] 44)) 86 #[.int .i64 7, .int .i64 o, .int .i64 i]
    replace bx := bx.alloc (.cells #[.int .i64 7, .int .i64 o, .int .i64 i] 86)
    replace B0 := B0.alloc B0.size (.cells #[.int .i64 7, .int .i64 o, .int .i64 i] 86)
    rw [World.size_alloc] at bo
    have lx := bx.lt
    have lo := bo.lt
    have mx := fun i => bx.cell i
    have mo := fun i => bo.cell i
    generalize (w.alloc (.cells #[.int .i64 s, .int .i64 t, .int .i64 f, .int .i64 l, .int .i64 p] 44)).alloc (.cells #[.int .i64 7, .int .i64 o, .int .i64 i] 86) = w1 at *

    refine (W1.out _).mono ?_
    rintro e w' ⟨rfl, rfl⟩
    go_wp2_with fail
    refine (W2.out _).mono ?_
    rintro e w' ⟨rfl, rfl⟩
    go_wp2_with fail
    go_ret
    exact ⟨rfl, B0⟩
set_option maxHeartbeats 1000000 in
theorem node_no8 (s t f l p o i : Int) (w : World) (hs : 1 ≤ s ∧ s ≤ 1000) (hf : 4 ≤ f ∧ f ≤ 64) (h : o < 0 ∨ s + 1 ≤ o ∨ i < 0 ∨ 1 ≤ i) :
    Calls Tryd.prog 78 #[.agg #[.int .i64 s, .int .i64 t, .int .i64 f, .int .i64 l, .int .i64 p], .agg #[.int .i64 8, .int .i64 o, .int .i64 i]] w fun e w' => e = .returned (.int .i64 (-1)) ∧ Below w.heap.size w w' := by
  have h7 : IntKind.i64.wrap (3 + f) = 3 + f := IntWalk.i64_in _ (by omega)
  obtain ⟨s1, s2⟩ := hs
  by_cases c : o < 0 ∨ s + 1 ≤ o
  · have W1 := hide (fun w => within_f o (s + 1) w c)
    clear h c
    go_enter Tryd.func78, Tryd.ntmps78
    go_wp2_with fail
    have bx := Blk.new w 44 #[.int .i64 s, .int .i64 t, .int .i64 f, .int .i64 l, .int .i64 p]
    have B0 := (Below.refl w.heap.size w).alloc (Nat.le_refl _) (.cells #[.int .i64 s, .int .i64 t, .int .i64 f, .int .i64 l, .int .i64 p] 44)
    have bo := Blk.new (w.alloc (.cells #[.int .i64 s, .int .i64 t, .int .i64 f, .int .i64 l, .int .i64 p] 44)) 86 #[.int .i64 8, .int .i64 o, .int .i64 i]
    replace bx := bx.alloc (.cells #[.int .i64 8, .int .i64 o, .int .i64 i] 86)
    replace B0 := B0.alloc B0.size (.cells #[.int .i64 8, .int .i64 o, .int .i64 i] 86)
    rw [World.size_alloc] at bo
    have lx := bx.lt
    have lo := bo.lt
    have mx := fun i => bx.cell i
    have mo := fun i => bo.cell i
    generalize (w.alloc (.cells #[.int .i64 s, .int .i64 t, .int .i64 f, .int .i64 l, .int .i64 p] 44)).alloc (.cells #[.int .i64 8, .int .i64 o, .int .i64 i] 86) = w1 at *

    refine (W1.out _).mono ?_
    rintro e w' ⟨rfl, rfl⟩
    go_wp2_with fail
    go_ret
    exact ⟨rfl, B0⟩
  · have W1 := hide (fun w => within_t o (s + 1) w (by omega) (by omega))
    have W2 := hide (fun w => within_f i (1) w (by omega))
    clear h c
    go_enter Tryd.func78, Tryd.ntmps78
    go_wp2_with fail
    have bx := Blk.new w 44 #[.int .i64 s, .int .i64 t, .int .i64 f, .int .i64 l, .int .i64 p]
    have B0 := (Below.refl w.heap.size w).alloc (Nat.le_refl _) (.cells #[.int .i64 s, .int .i64 t, .int .i64 f, .int .i64 l, .int .i64 p] 44)
    have bo := Blk.new (w.alloc (.cells #[.int .i64 s, .int .i64 t, .int .i64 f, .int .i64 l, .int .i64 p] 44)) 86 #[.int .i64 8, .int .i64 o, .int .i64 i]
    replace bx := bx.alloc (.cells #[.int .i64 8, .int .i64 o, .int .i64 i] 86)
    replace B0 := B0.alloc B0.size (.cells #[.int .i64 8, .int .i64 o, .int .i64 i] 86)
    rw [World.size_alloc] at bo
    have lx := bx.lt
    have lo := bo.lt
    have mx := fun i => bx.cell i
    have mo := fun i => bo.cell i
    generalize (w.alloc (.cells #[.int .i64 s, .int .i64 t, .int .i64 f, .int .i64 l, .int .i64 p] 44)).alloc (.cells #[.int .i64 8, .int .i64 o, .int .i64 i] 86) = w1 at *

    refine (W1.out _).mono ?_
    rintro e w' ⟨rfl, rfl⟩
    go_wp2_with fail
    refine (W2.out _).mono ?_
    rintro e w' ⟨rfl, rfl⟩
    go_wp2_with fail
    go_ret
    exact ⟨rfl, B0⟩
set_option maxHeartbeats 1000000 in
theorem node_no9 (s t f l p o i : Int) (w : World) (hs : 1 ≤ s ∧ s ≤ 1000) (hf : 4 ≤ f ∧ f ≤ 64) (h : o < 0 ∨ s + 1 ≤ o ∨ i < 0 ∨ f ≤ i) :
    Calls Tryd.prog 78 #[.agg #[.int .i64 s, .int .i64 t, .int .i64 f, .int .i64 l, .int .i64 p], .agg #[.int .i64 9, .int .i64 o, .int .i64 i]] w fun e w' => e = .returned (.int .i64 (-1)) ∧ Below w.heap.size w w' := by
  have h7 : IntKind.i64.wrap (3 + f) = 3 + f := IntWalk.i64_in _ (by omega)
  obtain ⟨s1, s2⟩ := hs
  by_cases c : o < 0 ∨ s + 1 ≤ o
  · have W1 := hide (fun w => within_f o (s + 1) w c)
    clear h c
    go_enter Tryd.func78, Tryd.ntmps78
    go_wp2_with fail
    have bx := Blk.new w 44 #[.int .i64 s, .int .i64 t, .int .i64 f, .int .i64 l, .int .i64 p]
    have B0 := (Below.refl w.heap.size w).alloc (Nat.le_refl _) (.cells #[.int .i64 s, .int .i64 t, .int .i64 f, .int .i64 l, .int .i64 p] 44)
    have bo := Blk.new (w.alloc (.cells #[.int .i64 s, .int .i64 t, .int .i64 f, .int .i64 l, .int .i64 p] 44)) 86 #[.int .i64 9, .int .i64 o, .int .i64 i]
    replace bx := bx.alloc (.cells #[.int .i64 9, .int .i64 o, .int .i64 i] 86)
    replace B0 := B0.alloc B0.size (.cells #[.int .i64 9, .int .i64 o, .int .i64 i] 86)
    rw [World.size_alloc] at bo
    have lx := bx.lt
    have lo := bo.lt
    have mx := fun i => bx.cell i
    have mo := fun i => bo.cell i
    generalize (w.alloc (.cells #[.int .i64 s, .int .i64 t, .int .i64 f, .int .i64 l, .int .i64 p] 44)).alloc (.cells #[.int .i64 9, .int .i64 o, .int .i64 i] 86) = w1 at *
    refine wp_region_past (by kernel_rfl) (by kernel_rfl) ?_
    repeat (quiet_step ((first | fail)))
    refine wpQuiet_nil ?_
    intro _ hw'
    obtain ⟨y, hw''⟩ := hw'
    subst hw''
    have hy := past_below w1 y
    replace bx := bx.below hy bx.lt
    replace bo := bo.below hy bo.lt
    replace B0 := B0.trans (hy.mono B0.size)
    clear hy mx mo lx lo
    generalize past w1 y = w2 at *
    have lx := bx.lt
    have lo := bo.lt
    have mx := fun i => bx.cell i
    have mo := fun i => bo.cell i
    go_wp2_with fail
    refine (W1.out _).mono ?_
    rintro e w' ⟨rfl, rfl⟩
    go_wp2_with fail
    go_ret
    exact ⟨rfl, B0⟩
  · have W1 := hide (fun w => within_t o (s + 1) w (by omega) (by omega))
    have W2 := hide (fun w => within_f i (f) w (by omega))
    clear h c
    go_enter Tryd.func78, Tryd.ntmps78
    go_wp2_with fail
    have bx := Blk.new w 44 #[.int .i64 s, .int .i64 t, .int .i64 f, .int .i64 l, .int .i64 p]
    have B0 := (Below.refl w.heap.size w).alloc (Nat.le_refl _) (.cells #[.int .i64 s, .int .i64 t, .int .i64 f, .int .i64 l, .int .i64 p] 44)
    have bo := Blk.new (w.alloc (.cells #[.int .i64 s, .int .i64 t, .int .i64 f, .int .i64 l, .int .i64 p] 44)) 86 #[.int .i64 9, .int .i64 o, .int .i64 i]
    replace bx := bx.alloc (.cells #[.int .i64 9, .int .i64 o, .int .i64 i] 86)
    replace B0 := B0.alloc B0.size (.cells #[.int .i64 9, .int .i64 o, .int .i64 i] 86)
    rw [World.size_alloc] at bo
    have lx := bx.lt
    have lo := bo.lt
    have mx := fun i => bx.cell i
    have mo := fun i => bo.cell i
    generalize (w.alloc (.cells #[.int .i64 s, .int .i64 t, .int .i64 f, .int .i64 l, .int .i64 p] 44)).alloc (.cells #[.int .i64 9, .int .i64 o, .int .i64 i] 86) = w1 at *
    refine wp_region_past (by kernel_rfl) (by kernel_rfl) ?_
    repeat (quiet_step ((first | fail)))
    refine wpQuiet_nil ?_
    intro _ hw'
    obtain ⟨y, hw''⟩ := hw'
    subst hw''
    have hy := past_below w1 y
    replace bx := bx.below hy bx.lt
    replace bo := bo.below hy bo.lt
    replace B0 := B0.trans (hy.mono B0.size)
    clear hy mx mo lx lo
    generalize past w1 y = w2 at *
    have lx := bx.lt
    have lo := bo.lt
    have mx := fun i => bx.cell i
    have mo := fun i => bo.cell i
    go_wp2_with fail
    refine (W1.out _).mono ?_
    rintro e w' ⟨rfl, rfl⟩
    go_wp2_with fail
    refine (W2.out _).mono ?_
    rintro e w' ⟨rfl, rfl⟩
    go_wp2_with fail
    go_ret
    exact ⟨rfl, B0⟩
set_option maxHeartbeats 1000000 in
theorem node_no10 (s t f l p o i : Int) (w : World) (hs : 1 ≤ s ∧ s ≤ 1000) (hf : 4 ≤ f ∧ f ≤ 64) (h : o < 0 ∨ s + 1 ≤ o ∨ i < 0 ∨ f ≤ i) :
    Calls Tryd.prog 78 #[.agg #[.int .i64 s, .int .i64 t, .int .i64 f, .int .i64 l, .int .i64 p], .agg #[.int .i64 10, .int .i64 o, .int .i64 i]] w fun e w' => e = .returned (.int .i64 (-1)) ∧ Below w.heap.size w w' := by
  have h7 : IntKind.i64.wrap (3 + f) = 3 + f := IntWalk.i64_in _ (by omega)
  obtain ⟨s1, s2⟩ := hs
  by_cases c : o < 0 ∨ s + 1 ≤ o
  · have W1 := hide (fun w => within_f o (s + 1) w c)
    clear h c
    go_enter Tryd.func78, Tryd.ntmps78
    go_wp2_with fail
    have bx := Blk.new w 44 #[.int .i64 s, .int .i64 t, .int .i64 f, .int .i64 l, .int .i64 p]
    have B0 := (Below.refl w.heap.size w).alloc (Nat.le_refl _) (.cells #[.int .i64 s, .int .i64 t, .int .i64 f, .int .i64 l, .int .i64 p] 44)
    have bo := Blk.new (w.alloc (.cells #[.int .i64 s, .int .i64 t, .int .i64 f, .int .i64 l, .int .i64 p] 44)) 86 #[.int .i64 10, .int .i64 o, .int .i64 i]
    replace bx := bx.alloc (.cells #[.int .i64 10, .int .i64 o, .int .i64 i] 86)
    replace B0 := B0.alloc B0.size (.cells #[.int .i64 10, .int .i64 o, .int .i64 i] 86)
    rw [World.size_alloc] at bo
    have lx := bx.lt
    have lo := bo.lt
    have mx := fun i => bx.cell i
    have mo := fun i => bo.cell i
    generalize (w.alloc (.cells #[.int .i64 s, .int .i64 t, .int .i64 f, .int .i64 l, .int .i64 p] 44)).alloc (.cells #[.int .i64 10, .int .i64 o, .int .i64 i] 86) = w1 at *
    refine wp_region_past (by kernel_rfl) (by kernel_rfl) ?_
    repeat (quiet_step ((first | fail)))
    refine wpQuiet_nil ?_
    intro _ hw'
    obtain ⟨y, hw''⟩ := hw'
    subst hw''
    have hy := past_below w1 y
    replace bx := bx.below hy bx.lt
    replace bo := bo.below hy bo.lt
    replace B0 := B0.trans (hy.mono B0.size)
    clear hy mx mo lx lo
    generalize past w1 y = w2 at *
    have lx := bx.lt
    have lo := bo.lt
    have mx := fun i => bx.cell i
    have mo := fun i => bo.cell i
    go_wp2_with fail
    refine (W1.out _).mono ?_
    rintro e w' ⟨rfl, rfl⟩
    go_wp2_with fail
    go_ret
    exact ⟨rfl, B0⟩
  · have W1 := hide (fun w => within_t o (s + 1) w (by omega) (by omega))
    have W2 := hide (fun w => within_f i (f) w (by omega))
    clear h c
    go_enter Tryd.func78, Tryd.ntmps78
    go_wp2_with fail
    have bx := Blk.new w 44 #[.int .i64 s, .int .i64 t, .int .i64 f, .int .i64 l, .int .i64 p]
    have B0 := (Below.refl w.heap.size w).alloc (Nat.le_refl _) (.cells #[.int .i64 s, .int .i64 t, .int .i64 f, .int .i64 l, .int .i64 p] 44)
    have bo := Blk.new (w.alloc (.cells #[.int .i64 s, .int .i64 t, .int .i64 f, .int .i64 l, .int .i64 p] 44)) 86 #[.int .i64 10, .int .i64 o, .int .i64 i]
    replace bx := bx.alloc (.cells #[.int .i64 10, .int .i64 o, .int .i64 i] 86)
    replace B0 := B0.alloc B0.size (.cells #[.int .i64 10, .int .i64 o, .int .i64 i] 86)
    rw [World.size_alloc] at bo
    have lx := bx.lt
    have lo := bo.lt
    have mx := fun i => bx.cell i
    have mo := fun i => bo.cell i
    generalize (w.alloc (.cells #[.int .i64 s, .int .i64 t, .int .i64 f, .int .i64 l, .int .i64 p] 44)).alloc (.cells #[.int .i64 10, .int .i64 o, .int .i64 i] 86) = w1 at *
    refine wp_region_past (by kernel_rfl) (by kernel_rfl) ?_
    repeat (quiet_step ((first | fail)))
    refine wpQuiet_nil ?_
    intro _ hw'
    obtain ⟨y, hw''⟩ := hw'
    subst hw''
    have hy := past_below w1 y
    replace bx := bx.below hy bx.lt
    replace bo := bo.below hy bo.lt
    replace B0 := B0.trans (hy.mono B0.size)
    clear hy mx mo lx lo
    generalize past w1 y = w2 at *
    have lx := bx.lt
    have lo := bo.lt
    have mx := fun i => bx.cell i
    have mo := fun i => bo.cell i
    go_wp2_with fail
    refine (W1.out _).mono ?_
    rintro e w' ⟨rfl, rfl⟩
    go_wp2_with fail
    refine (W2.out _).mono ?_
    rintro e w' ⟨rfl, rfl⟩
    go_wp2_with fail
    go_ret
    exact ⟨rfl, B0⟩
set_option maxHeartbeats 1000000 in
theorem node_none (s t f l p k o i : Int) (w : World) (hk : k < 6 ∨ 10 < k) :
    Calls Tryd.prog 78 #[.agg #[.int .i64 s, .int .i64 t, .int .i64 f, .int .i64 l, .int .i64 p], .agg #[.int .i64 k, .int .i64 o, .int .i64 i]] w fun e w' => e = .returned (.int .i64 (-1)) ∧ Below w.heap.size w w' := by
  have k6 : (k == 6) = false := by rw [beq_eq_false_iff_ne]; omega
  have k7 : (k == 7) = false := by rw [beq_eq_false_iff_ne]; omega
  have k8 : (k == 8) = false := by rw [beq_eq_false_iff_ne]; omega
  have k9 : (k == 9) = false := by rw [beq_eq_false_iff_ne]; omega
  have k10 : (k == 10) = false := by rw [beq_eq_false_iff_ne]; omega
  clear hk
  go_enter Tryd.func78, Tryd.ntmps78
  go_wp2_with fail
  go_ret
  exact ⟨rfl, ((Below.refl _ _).alloc (Nat.le_refl _) _).alloc (by simp only [World.size_alloc]; omega) _⟩
/-- node, whatever the place. -/
theorem node_any (s t f l p k o i : Int) (w : World) (hs : 1 ≤ s ∧ s ≤ 1000) (ht : 1 ≤ t ∧ t ≤ 64) (hf : 4 ≤ f ∧ f ≤ 64) :
    Calls Tryd.prog 78 #[.agg #[.int .i64 s, .int .i64 t, .int .i64 f, .int .i64 l, .int .i64 p], .agg #[.int .i64 k, .int .i64 o, .int .i64 i]] w fun e w' => e = .returned (.int .i64 (nod s t f k o i)) ∧ Below w.heap.size w w' := by
  by_cases hk : k < 6 ∨ 10 < k
  · rw [show nod s t f k o i = -1 from if_pos (by omega)]
    exact node_none s t f l p k o i w hk
  have hk5 : k = 6 ∨ k = 7 ∨ k = 8 ∨ k = 9 ∨ k = 10 := by omega
  by_cases h : o < 0 ∨ s + 1 ≤ o ∨ i < 0 ∨ nodMany f k ≤ i
  · rw [show nod s t f k o i = -1 from if_pos (by omega)]
    rcases hk5 with rfl | rfl | rfl | rfl | rfl
    · exact node_no6 s t f l p o i w hs hf h
    · exact node_no7 s t f l p o i w hs hf h
    · exact node_no8 s t f l p o i w hs hf h
    · exact node_no9 s t f l p o i w hs hf h
    · exact node_no10 s t f l p o i w hs hf h
  · rw [show nod s t f k o i = 3 + 3 * t + o * (3 + 2 * f) + nodAt f k + i from if_neg (by omega)]
    have ho : 0 ≤ o ∧ o < s + 1 := by omega
    rcases hk5 with rfl | rfl | rfl | rfl | rfl
    · have := node_yes6 s t f l p o i w hs ht hf ho ⟨by omega, by have : ¬ (1 : Int) ≤ i := fun e => h (.inr (.inr (.inr e))); omega⟩
      rw [show nodAt f 6 = 0 from rfl, Int.add_zero]
      exact this
    · exact node_yes7 s t f l p o i w hs ht hf ho ⟨by omega, by have : ¬ (1 : Int) ≤ i := fun e => h (.inr (.inr (.inr e))); omega⟩
    · exact node_yes8 s t f l p o i w hs ht hf ho ⟨by omega, by have : ¬ (1 : Int) ≤ i := fun e => h (.inr (.inr (.inr e))); omega⟩
    · exact node_yes9 s t f l p o i w hs ht hf ho ⟨by omega, by have : ¬ f ≤ i := fun e => h (.inr (.inr (.inr e))); omega⟩
    · exact node_yes10 s t f l p o i w hs ht hf ho ⟨by omega, by have : ¬ f ≤ i := fun e => h (.inr (.inr (.inr e))); omega⟩
end Go.Proofs.YtokcbipmocpllaaDoor

/-
  Package layout: At, and the words of threads and slots.
-/
namespace Go.Proofs.YtokcbipmocpllaaDoor
open Go.RowKit
attribute [local go_sem] past_cell past_cell_add

set_option maxHeartbeats 1000000 in
theorem at_first1 (s t f l p : Int) (w : World) (hs : 1 ≤ s) :
    Calls Tryd.prog 52 #[.agg #[.int .i64 s, .int .i64 t, .int .i64 f, .int .i64 l, .int .i64 p], .agg #[.int .i64 1, .int .i64 0, .int .i64 0]] w fun e w' => e = .returned (.int .i64 0) ∧ Below w.heap.size w w' := by
  have N := hide (fun w => none_no s t f l p w hs)
  go_enter Tryd.func52, Tryd.ntmps52
  go_wp2_with fail
  have bx := Blk.new w 44 #[.int .i64 s, .int .i64 t, .int .i64 f, .int .i64 l, .int .i64 p]
  have B0 := (Below.refl w.heap.size w).alloc (Nat.le_refl _) (.cells #[.int .i64 s, .int .i64 t, .int .i64 f, .int .i64 l, .int .i64 p] 44)
  have bo := Blk.new (w.alloc (.cells #[.int .i64 s, .int .i64 t, .int .i64 f, .int .i64 l, .int .i64 p] 44)) 86 #[.int .i64 1, .int .i64 0, .int .i64 0]
  replace bx := bx.alloc (.cells #[.int .i64 1, .int .i64 0, .int .i64 0] 86)
  replace B0 := B0.alloc B0.size (.cells #[.int .i64 1, .int .i64 0, .int .i64 0] 86)
  rw [World.size_alloc] at bo
  refine (N.out _).mono ?_
  rintro e w1 ⟨rfl, hb1⟩
  replace bx := bx.below hb1 bx.lt
  replace bo := bo.below hb1 bo.lt
  replace B0 := B0.trans (hb1.mono B0.size)
  clear hb1
  have lx := bx.lt
  have lo := bo.lt
  have mx := fun i => bx.cell i
  have mo := fun i => bo.cell i
  go_wp2_with fail
  go_ret
  exact ⟨rfl, B0⟩
set_option maxHeartbeats 1000000 in
theorem at_first2 (s t f l p : Int) (w : World) (hs : 1 ≤ s) :
    Calls Tryd.prog 52 #[.agg #[.int .i64 s, .int .i64 t, .int .i64 f, .int .i64 l, .int .i64 p], .agg #[.int .i64 2, .int .i64 0, .int .i64 0]] w fun e w' => e = .returned (.int .i64 1) ∧ Below w.heap.size w w' := by
  have N := hide (fun w => none_no s t f l p w hs)
  go_enter Tryd.func52, Tryd.ntmps52
  go_wp2_with fail
  have bx := Blk.new w 44 #[.int .i64 s, .int .i64 t, .int .i64 f, .int .i64 l, .int .i64 p]
  have B0 := (Below.refl w.heap.size w).alloc (Nat.le_refl _) (.cells #[.int .i64 s, .int .i64 t, .int .i64 f, .int .i64 l, .int .i64 p] 44)
  have bo := Blk.new (w.alloc (.cells #[.int .i64 s, .int .i64 t, .int .i64 f, .int .i64 l, .int .i64 p] 44)) 86 #[.int .i64 2, .int .i64 0, .int .i64 0]
  replace bx := bx.alloc (.cells #[.int .i64 2, .int .i64 0, .int .i64 0] 86)
  replace B0 := B0.alloc B0.size (.cells #[.int .i64 2, .int .i64 0, .int .i64 0] 86)
  rw [World.size_alloc] at bo
  refine (N.out _).mono ?_
  rintro e w1 ⟨rfl, hb1⟩
  replace bx := bx.below hb1 bx.lt
  replace bo := bo.below hb1 bo.lt
  replace B0 := B0.trans (hb1.mono B0.size)
  clear hb1
  have lx := bx.lt
  have lo := bo.lt
  have mx := fun i => bx.cell i
  have mo := fun i => bo.cell i
  go_wp2_with fail
  go_ret
  exact ⟨rfl, B0⟩
set_option maxHeartbeats 1000000 in
theorem at_first3 (s t f l p : Int) (w : World) (hs : 1 ≤ s) :
    Calls Tryd.prog 52 #[.agg #[.int .i64 s, .int .i64 t, .int .i64 f, .int .i64 l, .int .i64 p], .agg #[.int .i64 3, .int .i64 0, .int .i64 0]] w fun e w' => e = .returned (.int .i64 2) ∧ Below w.heap.size w w' := by
  have N := hide (fun w => none_no s t f l p w hs)
  go_enter Tryd.func52, Tryd.ntmps52
  go_wp2_with fail
  have bx := Blk.new w 44 #[.int .i64 s, .int .i64 t, .int .i64 f, .int .i64 l, .int .i64 p]
  have B0 := (Below.refl w.heap.size w).alloc (Nat.le_refl _) (.cells #[.int .i64 s, .int .i64 t, .int .i64 f, .int .i64 l, .int .i64 p] 44)
  have bo := Blk.new (w.alloc (.cells #[.int .i64 s, .int .i64 t, .int .i64 f, .int .i64 l, .int .i64 p] 44)) 86 #[.int .i64 3, .int .i64 0, .int .i64 0]
  replace bx := bx.alloc (.cells #[.int .i64 3, .int .i64 0, .int .i64 0] 86)
  replace B0 := B0.alloc B0.size (.cells #[.int .i64 3, .int .i64 0, .int .i64 0] 86)
  rw [World.size_alloc] at bo
  refine (N.out _).mono ?_
  rintro e w1 ⟨rfl, hb1⟩
  replace bx := bx.below hb1 bx.lt
  replace bo := bo.below hb1 bo.lt
  replace B0 := B0.trans (hb1.mono B0.size)
  clear hb1
  have lx := bx.lt
  have lo := bo.lt
  have mx := fun i => bx.cell i
  have mo := fun i => bo.cell i
  go_wp2_with fail
  go_ret
  exact ⟨rfl, B0⟩
set_option maxHeartbeats 1000000 in
theorem at_node (s t f l p k o i : Int) (w : World) (hs : 1 ≤ s ∧ s ≤ 1000) (ht : 1 ≤ t ∧ t ≤ 64) (hf : 4 ≤ f ∧ f ≤ 64) (hk : k < 1 ∨ 5 < k) :
    Calls Tryd.prog 52 #[.agg #[.int .i64 s, .int .i64 t, .int .i64 f, .int .i64 l, .int .i64 p], .agg #[.int .i64 k, .int .i64 o, .int .i64 i]] w fun e w' => e = .returned (.int .i64 (nod s t f k o i)) ∧ Below w.heap.size w w' := by
  have N := hide (fun w => none_no s t f l p w hs.1)
  have D := hide (fun w => node_any s t f l p (k) (o) (i) w hs ht hf)
  have k1 : (k == 1) = false := by rw [beq_eq_false_iff_ne]; omega
  have k2 : (k == 2) = false := by rw [beq_eq_false_iff_ne]; omega
  have k3 : (k == 3) = false := by rw [beq_eq_false_iff_ne]; omega
  have k4 : (k == 4) = false := by rw [beq_eq_false_iff_ne]; omega
  have k5 : (k == 5) = false := by rw [beq_eq_false_iff_ne]; omega
  clear hk
  generalize nod s t f k o i = R at *
  go_enter Tryd.func52, Tryd.ntmps52
  go_wp2_with fail
  have bx := Blk.new w 44 #[.int .i64 s, .int .i64 t, .int .i64 f, .int .i64 l, .int .i64 p]
  have B0 := (Below.refl w.heap.size w).alloc (Nat.le_refl _) (.cells #[.int .i64 s, .int .i64 t, .int .i64 f, .int .i64 l, .int .i64 p] 44)
  have bo := Blk.new (w.alloc (.cells #[.int .i64 s, .int .i64 t, .int .i64 f, .int .i64 l, .int .i64 p] 44)) 86 #[.int .i64 k, .int .i64 o, .int .i64 i]
  replace bx := bx.alloc (.cells #[.int .i64 k, .int .i64 o, .int .i64 i] 86)
  replace B0 := B0.alloc B0.size (.cells #[.int .i64 k, .int .i64 o, .int .i64 i] 86)
  rw [World.size_alloc] at bo
  refine (N.out _).mono ?_
  rintro e w1 ⟨rfl, hb1⟩
  replace bx := bx.below hb1 bx.lt
  replace bo := bo.below hb1 bo.lt
  replace B0 := B0.trans (hb1.mono B0.size)
  clear hb1
  have lx := bx.lt
  have lo := bo.lt
  have mx := fun i => bx.cell i
  have mo := fun i => bo.cell i
  go_wp2_with fail
  refine (D.out _).mono ?_
  rintro e w2 ⟨rfl, hb2⟩
  go_wp2_with fail
  go_ret
  exact ⟨rfl, B0.trans (hb2.mono B0.size)⟩
set_option maxHeartbeats 1000000 in
theorem at_b1 (s t f l p o i : Int) (w : World) (hs : 1 ≤ s ∧ s ≤ 1000) (ht : 1 ≤ t ∧ t ≤ 64) (hf : 4 ≤ f ∧ f ≤ 64) (ho : (o == 0) = false) :
    Calls Tryd.prog 52 #[.agg #[.int .i64 s, .int .i64 t, .int .i64 f, .int .i64 l, .int .i64 p], .agg #[.int .i64 1, .int .i64 o, .int .i64 i]] w fun e w' => e = .returned (.int .i64 (nod s t f 1 o i)) ∧ Below w.heap.size w w' := by
  have N := hide (fun w => none_no s t f l p w hs.1)
  have D := hide (fun w => node_any s t f l p (1) (o) (i) w hs ht hf)
  generalize nod s t f 1 o i = R at *
  go_enter Tryd.func52, Tryd.ntmps52
  go_wp2_with fail
  have bx := Blk.new w 44 #[.int .i64 s, .int .i64 t, .int .i64 f, .int .i64 l, .int .i64 p]
  have B0 := (Below.refl w.heap.size w).alloc (Nat.le_refl _) (.cells #[.int .i64 s, .int .i64 t, .int .i64 f, .int .i64 l, .int .i64 p] 44)
  have bo := Blk.new (w.alloc (.cells #[.int .i64 s, .int .i64 t, .int .i64 f, .int .i64 l, .int .i64 p] 44)) 86 #[.int .i64 1, .int .i64 o, .int .i64 i]
  replace bx := bx.alloc (.cells #[.int .i64 1, .int .i64 o, .int .i64 i] 86)
  replace B0 := B0.alloc B0.size (.cells #[.int .i64 1, .int .i64 o, .int .i64 i] 86)
  rw [World.size_alloc] at bo
  refine (N.out _).mono ?_
  rintro e w1 ⟨rfl, hb1⟩
  replace bx := bx.below hb1 bx.lt
  replace bo := bo.below hb1 bo.lt
  replace B0 := B0.trans (hb1.mono B0.size)
  clear hb1
  have lx := bx.lt
  have lo := bo.lt
  have mx := fun i => bx.cell i
  have mo := fun i => bo.cell i
  go_wp2_with fail
  refine (D.out _).mono ?_
  rintro e w2 ⟨rfl, hb2⟩
  go_wp2_with fail
  go_ret
  exact ⟨rfl, B0.trans (hb2.mono B0.size)⟩
set_option maxHeartbeats 1000000 in
theorem at_c1 (s t f l p i : Int) (w : World) (hs : 1 ≤ s ∧ s ≤ 1000) (ht : 1 ≤ t ∧ t ≤ 64) (hf : 4 ≤ f ∧ f ≤ 64) (hi : (i == 0) = false) :
    Calls Tryd.prog 52 #[.agg #[.int .i64 s, .int .i64 t, .int .i64 f, .int .i64 l, .int .i64 p], .agg #[.int .i64 1, .int .i64 0, .int .i64 i]] w fun e w' => e = .returned (.int .i64 (nod s t f 1 0 i)) ∧ Below w.heap.size w w' := by
  have N := hide (fun w => none_no s t f l p w hs.1)
  have D := hide (fun w => node_any s t f l p (1) (0) (i) w hs ht hf)
  generalize nod s t f 1 0 i = R at *
  go_enter Tryd.func52, Tryd.ntmps52
  go_wp2_with fail
  have bx := Blk.new w 44 #[.int .i64 s, .int .i64 t, .int .i64 f, .int .i64 l, .int .i64 p]
  have B0 := (Below.refl w.heap.size w).alloc (Nat.le_refl _) (.cells #[.int .i64 s, .int .i64 t, .int .i64 f, .int .i64 l, .int .i64 p] 44)
  have bo := Blk.new (w.alloc (.cells #[.int .i64 s, .int .i64 t, .int .i64 f, .int .i64 l, .int .i64 p] 44)) 86 #[.int .i64 1, .int .i64 0, .int .i64 i]
  replace bx := bx.alloc (.cells #[.int .i64 1, .int .i64 0, .int .i64 i] 86)
  replace B0 := B0.alloc B0.size (.cells #[.int .i64 1, .int .i64 0, .int .i64 i] 86)
  rw [World.size_alloc] at bo
  refine (N.out _).mono ?_
  rintro e w1 ⟨rfl, hb1⟩
  replace bx := bx.below hb1 bx.lt
  replace bo := bo.below hb1 bo.lt
  replace B0 := B0.trans (hb1.mono B0.size)
  clear hb1
  have lx := bx.lt
  have lo := bo.lt
  have mx := fun i => bx.cell i
  have mo := fun i => bo.cell i
  go_wp2_with fail
  refine (D.out _).mono ?_
  rintro e w2 ⟨rfl, hb2⟩
  go_wp2_with fail
  go_ret
  exact ⟨rfl, B0.trans (hb2.mono B0.size)⟩
set_option maxHeartbeats 1000000 in
theorem at_b2 (s t f l p o i : Int) (w : World) (hs : 1 ≤ s ∧ s ≤ 1000) (ht : 1 ≤ t ∧ t ≤ 64) (hf : 4 ≤ f ∧ f ≤ 64) (ho : (o == 0) = false) :
    Calls Tryd.prog 52 #[.agg #[.int .i64 s, .int .i64 t, .int .i64 f, .int .i64 l, .int .i64 p], .agg #[.int .i64 2, .int .i64 o, .int .i64 i]] w fun e w' => e = .returned (.int .i64 (nod s t f 2 o i)) ∧ Below w.heap.size w w' := by
  have N := hide (fun w => none_no s t f l p w hs.1)
  have D := hide (fun w => node_any s t f l p (2) (o) (i) w hs ht hf)
  generalize nod s t f 2 o i = R at *
  go_enter Tryd.func52, Tryd.ntmps52
  go_wp2_with fail
  have bx := Blk.new w 44 #[.int .i64 s, .int .i64 t, .int .i64 f, .int .i64 l, .int .i64 p]
  have B0 := (Below.refl w.heap.size w).alloc (Nat.le_refl _) (.cells #[.int .i64 s, .int .i64 t, .int .i64 f, .int .i64 l, .int .i64 p] 44)
  have bo := Blk.new (w.alloc (.cells #[.int .i64 s, .int .i64 t, .int .i64 f, .int .i64 l, .int .i64 p] 44)) 86 #[.int .i64 2, .int .i64 o, .int .i64 i]
  replace bx := bx.alloc (.cells #[.int .i64 2, .int .i64 o, .int .i64 i] 86)
  replace B0 := B0.alloc B0.size (.cells #[.int .i64 2, .int .i64 o, .int .i64 i] 86)
  rw [World.size_alloc] at bo
  refine (N.out _).mono ?_
  rintro e w1 ⟨rfl, hb1⟩
  replace bx := bx.below hb1 bx.lt
  replace bo := bo.below hb1 bo.lt
  replace B0 := B0.trans (hb1.mono B0.size)
  clear hb1
  have lx := bx.lt
  have lo := bo.lt
  have mx := fun i => bx.cell i
  have mo := fun i => bo.cell i
  go_wp2_with fail
  refine (D.out _).mono ?_
  rintro e w2 ⟨rfl, hb2⟩
  go_wp2_with fail
  go_ret
  exact ⟨rfl, B0.trans (hb2.mono B0.size)⟩
set_option maxHeartbeats 1000000 in
theorem at_c2 (s t f l p i : Int) (w : World) (hs : 1 ≤ s ∧ s ≤ 1000) (ht : 1 ≤ t ∧ t ≤ 64) (hf : 4 ≤ f ∧ f ≤ 64) (hi : (i == 0) = false) :
    Calls Tryd.prog 52 #[.agg #[.int .i64 s, .int .i64 t, .int .i64 f, .int .i64 l, .int .i64 p], .agg #[.int .i64 2, .int .i64 0, .int .i64 i]] w fun e w' => e = .returned (.int .i64 (nod s t f 2 0 i)) ∧ Below w.heap.size w w' := by
  have N := hide (fun w => none_no s t f l p w hs.1)
  have D := hide (fun w => node_any s t f l p (2) (0) (i) w hs ht hf)
  generalize nod s t f 2 0 i = R at *
  go_enter Tryd.func52, Tryd.ntmps52
  go_wp2_with fail
  have bx := Blk.new w 44 #[.int .i64 s, .int .i64 t, .int .i64 f, .int .i64 l, .int .i64 p]
  have B0 := (Below.refl w.heap.size w).alloc (Nat.le_refl _) (.cells #[.int .i64 s, .int .i64 t, .int .i64 f, .int .i64 l, .int .i64 p] 44)
  have bo := Blk.new (w.alloc (.cells #[.int .i64 s, .int .i64 t, .int .i64 f, .int .i64 l, .int .i64 p] 44)) 86 #[.int .i64 2, .int .i64 0, .int .i64 i]
  replace bx := bx.alloc (.cells #[.int .i64 2, .int .i64 0, .int .i64 i] 86)
  replace B0 := B0.alloc B0.size (.cells #[.int .i64 2, .int .i64 0, .int .i64 i] 86)
  rw [World.size_alloc] at bo
  refine (N.out _).mono ?_
  rintro e w1 ⟨rfl, hb1⟩
  replace bx := bx.below hb1 bx.lt
  replace bo := bo.below hb1 bo.lt
  replace B0 := B0.trans (hb1.mono B0.size)
  clear hb1
  have lx := bx.lt
  have lo := bo.lt
  have mx := fun i => bx.cell i
  have mo := fun i => bo.cell i
  go_wp2_with fail
  refine (D.out _).mono ?_
  rintro e w2 ⟨rfl, hb2⟩
  go_wp2_with fail
  go_ret
  exact ⟨rfl, B0.trans (hb2.mono B0.size)⟩
set_option maxHeartbeats 1000000 in
theorem at_b3 (s t f l p o i : Int) (w : World) (hs : 1 ≤ s ∧ s ≤ 1000) (ht : 1 ≤ t ∧ t ≤ 64) (hf : 4 ≤ f ∧ f ≤ 64) (ho : (o == 0) = false) :
    Calls Tryd.prog 52 #[.agg #[.int .i64 s, .int .i64 t, .int .i64 f, .int .i64 l, .int .i64 p], .agg #[.int .i64 3, .int .i64 o, .int .i64 i]] w fun e w' => e = .returned (.int .i64 (nod s t f 3 o i)) ∧ Below w.heap.size w w' := by
  have N := hide (fun w => none_no s t f l p w hs.1)
  have D := hide (fun w => node_any s t f l p (3) (o) (i) w hs ht hf)
  generalize nod s t f 3 o i = R at *
  go_enter Tryd.func52, Tryd.ntmps52
  go_wp2_with fail
  have bx := Blk.new w 44 #[.int .i64 s, .int .i64 t, .int .i64 f, .int .i64 l, .int .i64 p]
  have B0 := (Below.refl w.heap.size w).alloc (Nat.le_refl _) (.cells #[.int .i64 s, .int .i64 t, .int .i64 f, .int .i64 l, .int .i64 p] 44)
  have bo := Blk.new (w.alloc (.cells #[.int .i64 s, .int .i64 t, .int .i64 f, .int .i64 l, .int .i64 p] 44)) 86 #[.int .i64 3, .int .i64 o, .int .i64 i]
  replace bx := bx.alloc (.cells #[.int .i64 3, .int .i64 o, .int .i64 i] 86)
  replace B0 := B0.alloc B0.size (.cells #[.int .i64 3, .int .i64 o, .int .i64 i] 86)
  rw [World.size_alloc] at bo
  refine (N.out _).mono ?_
  rintro e w1 ⟨rfl, hb1⟩
  replace bx := bx.below hb1 bx.lt
  replace bo := bo.below hb1 bo.lt
  replace B0 := B0.trans (hb1.mono B0.size)
  clear hb1
  have lx := bx.lt
  have lo := bo.lt
  have mx := fun i => bx.cell i
  have mo := fun i => bo.cell i
  go_wp2_with fail
  refine (D.out _).mono ?_
  rintro e w2 ⟨rfl, hb2⟩
  go_wp2_with fail
  go_ret
  exact ⟨rfl, B0.trans (hb2.mono B0.size)⟩
set_option maxHeartbeats 1000000 in
theorem at_c3 (s t f l p i : Int) (w : World) (hs : 1 ≤ s ∧ s ≤ 1000) (ht : 1 ≤ t ∧ t ≤ 64) (hf : 4 ≤ f ∧ f ≤ 64) (hi : (i == 0) = false) :
    Calls Tryd.prog 52 #[.agg #[.int .i64 s, .int .i64 t, .int .i64 f, .int .i64 l, .int .i64 p], .agg #[.int .i64 3, .int .i64 0, .int .i64 i]] w fun e w' => e = .returned (.int .i64 (nod s t f 3 0 i)) ∧ Below w.heap.size w w' := by
  have N := hide (fun w => none_no s t f l p w hs.1)
  have D := hide (fun w => node_any s t f l p (3) (0) (i) w hs ht hf)
  generalize nod s t f 3 0 i = R at *
  go_enter Tryd.func52, Tryd.ntmps52
  go_wp2_with fail
  have bx := Blk.new w 44 #[.int .i64 s, .int .i64 t, .int .i64 f, .int .i64 l, .int .i64 p]
  have B0 := (Below.refl w.heap.size w).alloc (Nat.le_refl _) (.cells #[.int .i64 s, .int .i64 t, .int .i64 f, .int .i64 l, .int .i64 p] 44)
  have bo := Blk.new (w.alloc (.cells #[.int .i64 s, .int .i64 t, .int .i64 f, .int .i64 l, .int .i64 p] 44)) 86 #[.int .i64 3, .int .i64 0, .int .i64 i]
  replace bx := bx.alloc (.cells #[.int .i64 3, .int .i64 0, .int .i64 i] 86)
  replace B0 := B0.alloc B0.size (.cells #[.int .i64 3, .int .i64 0, .int .i64 i] 86)
  rw [World.size_alloc] at bo
  refine (N.out _).mono ?_
  rintro e w1 ⟨rfl, hb1⟩
  replace bx := bx.below hb1 bx.lt
  replace bo := bo.below hb1 bo.lt
  replace B0 := B0.trans (hb1.mono B0.size)
  clear hb1
  have lx := bx.lt
  have lo := bo.lt
  have mx := fun i => bx.cell i
  have mo := fun i => bo.cell i
  go_wp2_with fail
  refine (D.out _).mono ?_
  rintro e w2 ⟨rfl, hb2⟩
  go_wp2_with fail
  go_ret
  exact ⟨rfl, B0.trans (hb2.mono B0.size)⟩
set_option maxHeartbeats 1000000 in
theorem at_4i (s t f l p o i : Int) (w : World) (hs : 1 ≤ s ∧ s ≤ 1000) (ht : 1 ≤ t ∧ t ≤ 64) (hf : 4 ≤ f ∧ f ≤ 64) (hi : (i == 0) = false) :
    Calls Tryd.prog 52 #[.agg #[.int .i64 s, .int .i64 t, .int .i64 f, .int .i64 l, .int .i64 p], .agg #[.int .i64 4, .int .i64 o, .int .i64 i]] w fun e w' => e = .returned (.int .i64 (nod s t f 4 o i)) ∧ Below w.heap.size w w' := by
  have N := hide (fun w => none_no s t f l p w hs.1)
  have D := hide (fun w => node_any s t f l p (4) (o) (i) w hs ht hf)
  generalize nod s t f 4 o i = R at *
  go_enter Tryd.func52, Tryd.ntmps52
  go_wp2_with fail
  have bx := Blk.new w 44 #[.int .i64 s, .int .i64 t, .int .i64 f, .int .i64 l, .int .i64 p]
  have B0 := (Below.refl w.heap.size w).alloc (Nat.le_refl _) (.cells #[.int .i64 s, .int .i64 t, .int .i64 f, .int .i64 l, .int .i64 p] 44)
  have bo := Blk.new (w.alloc (.cells #[.int .i64 s, .int .i64 t, .int .i64 f, .int .i64 l, .int .i64 p] 44)) 86 #[.int .i64 4, .int .i64 o, .int .i64 i]
  replace bx := bx.alloc (.cells #[.int .i64 4, .int .i64 o, .int .i64 i] 86)
  replace B0 := B0.alloc B0.size (.cells #[.int .i64 4, .int .i64 o, .int .i64 i] 86)
  rw [World.size_alloc] at bo
  refine (N.out _).mono ?_
  rintro e w1 ⟨rfl, hb1⟩
  replace bx := bx.below hb1 bx.lt
  replace bo := bo.below hb1 bo.lt
  replace B0 := B0.trans (hb1.mono B0.size)
  clear hb1
  have lx := bx.lt
  have lo := bo.lt
  have mx := fun i => bx.cell i
  have mo := fun i => bo.cell i
  go_wp2_with fail
  refine (D.out _).mono ?_
  rintro e w2 ⟨rfl, hb2⟩
  go_wp2_with fail
  go_ret
  exact ⟨rfl, B0.trans (hb2.mono B0.size)⟩
set_option maxHeartbeats 1000000 in
theorem at_4o (s t f l p o : Int) (w : World) (hs : 1 ≤ s ∧ s ≤ 1000) (ht : 1 ≤ t ∧ t ≤ 64) (hf : 4 ≤ f ∧ f ≤ 64) (ho : o < 0 ∨ t ≤ o) :
    Calls Tryd.prog 52 #[.agg #[.int .i64 s, .int .i64 t, .int .i64 f, .int .i64 l, .int .i64 p], .agg #[.int .i64 4, .int .i64 o, .int .i64 0]] w fun e w' => e = .returned (.int .i64 (nod s t f 4 o 0)) ∧ Below w.heap.size w w' := by
  have N := hide (fun w => none_no s t f l p w hs.1)
  have D := hide (fun w => node_any s t f l p (4) (o) (0) w hs ht hf)
  have W1 := hide (fun w => within_f o t w ho)
  clear ho
  generalize nod s t f 4 o 0 = R at *
  go_enter Tryd.func52, Tryd.ntmps52
  go_wp2_with fail
  have bx := Blk.new w 44 #[.int .i64 s, .int .i64 t, .int .i64 f, .int .i64 l, .int .i64 p]
  have B0 := (Below.refl w.heap.size w).alloc (Nat.le_refl _) (.cells #[.int .i64 s, .int .i64 t, .int .i64 f, .int .i64 l, .int .i64 p] 44)
  have bo := Blk.new (w.alloc (.cells #[.int .i64 s, .int .i64 t, .int .i64 f, .int .i64 l, .int .i64 p] 44)) 86 #[.int .i64 4, .int .i64 o, .int .i64 0]
  replace bx := bx.alloc (.cells #[.int .i64 4, .int .i64 o, .int .i64 0] 86)
  replace B0 := B0.alloc B0.size (.cells #[.int .i64 4, .int .i64 o, .int .i64 0] 86)
  rw [World.size_alloc] at bo
  refine (N.out _).mono ?_
  rintro e w1 ⟨rfl, hb1⟩
  replace bx := bx.below hb1 bx.lt
  replace bo := bo.below hb1 bo.lt
  replace B0 := B0.trans (hb1.mono B0.size)
  clear hb1
  have lx := bx.lt
  have lo := bo.lt
  have mx := fun i => bx.cell i
  have mo := fun i => bo.cell i
  go_wp2_with fail
  refine (W1.out _).mono ?_
  rintro e w' ⟨rfl, rfl⟩
  go_wp2_with fail
  refine (D.out _).mono ?_
  rintro e w2 ⟨rfl, hb2⟩
  go_wp2_with fail
  go_ret
  exact ⟨rfl, B0.trans (hb2.mono B0.size)⟩
set_option maxHeartbeats 1000000 in
theorem at_4 (s t f l p o : Int) (w : World) (hs : 1 ≤ s ∧ s ≤ 1000) (ht : 1 ≤ t ∧ t ≤ 64) (ho : 0 ≤ o ∧ o < t) :
    Calls Tryd.prog 52 #[.agg #[.int .i64 s, .int .i64 t, .int .i64 f, .int .i64 l, .int .i64 p], .agg #[.int .i64 4, .int .i64 o, .int .i64 0]] w fun e w' => e = .returned (.int .i64 (3 + o)) ∧ Below w.heap.size w w' := by
  have N := hide (fun w => none_no s t f l p w hs.1)
  have W1 := hide (fun w => within_t o t w ho.1 ho.2)
  have h3 : IntKind.i64.wrap (3 + o) = 3 + o := IntWalk.i64_in _ (by omega)
  clear ho hs ht
  go_enter Tryd.func52, Tryd.ntmps52
  go_wp2_with fail
  have bx := Blk.new w 44 #[.int .i64 s, .int .i64 t, .int .i64 f, .int .i64 l, .int .i64 p]
  have B0 := (Below.refl w.heap.size w).alloc (Nat.le_refl _) (.cells #[.int .i64 s, .int .i64 t, .int .i64 f, .int .i64 l, .int .i64 p] 44)
  have bo := Blk.new (w.alloc (.cells #[.int .i64 s, .int .i64 t, .int .i64 f, .int .i64 l, .int .i64 p] 44)) 86 #[.int .i64 4, .int .i64 o, .int .i64 0]
  replace bx := bx.alloc (.cells #[.int .i64 4, .int .i64 o, .int .i64 0] 86)
  replace B0 := B0.alloc B0.size (.cells #[.int .i64 4, .int .i64 o, .int .i64 0] 86)
  rw [World.size_alloc] at bo
  refine (N.out _).mono ?_
  rintro e w1 ⟨rfl, hb1⟩
  replace bx := bx.below hb1 bx.lt
  replace bo := bo.below hb1 bo.lt
  replace B0 := B0.trans (hb1.mono B0.size)
  clear hb1
  have lx := bx.lt
  have lo := bo.lt
  have mx := fun i => bx.cell i
  have mo := fun i => bo.cell i
  go_wp2_with fail
  refine (W1.out _).mono ?_
  rintro e w' ⟨rfl, rfl⟩
  go_wp2_with fail
  refine wp_region_past (by kernel_rfl) (by kernel_rfl) ?_
  repeat (quiet_step ((first | ((exact calls_past (announces_any _ _ _ _ _ _))))))
  refine wpQuiet_nil ?_
  intro _ hw'
  obtain ⟨y, hw''⟩ := hw'
  subst hw''
  have hy := past_below w1 y
  go_wp2_with fail
  go_ret
  exact ⟨rfl, B0.trans (hy.mono B0.size)⟩
set_option maxHeartbeats 1000000 in
theorem at_5i (s t f l p o i : Int) (w : World) (hs : 1 ≤ s ∧ s ≤ 1000) (ht : 1 ≤ t ∧ t ≤ 64) (hf : 4 ≤ f ∧ f ≤ 64) (hi : i < 0 ∨ 2 ≤ i) :
    Calls Tryd.prog 52 #[.agg #[.int .i64 s, .int .i64 t, .int .i64 f, .int .i64 l, .int .i64 p], .agg #[.int .i64 5, .int .i64 o, .int .i64 i]] w fun e w' => e = .returned (.int .i64 (nod s t f 5 o i)) ∧ Below w.heap.size w w' := by
  have N := hide (fun w => none_no s t f l p w hs.1)
  have D := hide (fun w => node_any s t f l p (5) (o) (i) w hs ht hf)
  have W1 := hide (fun w => within_f i 2 w hi)
  clear hi
  generalize nod s t f 5 o i = R at *
  go_enter Tryd.func52, Tryd.ntmps52
  go_wp2_with fail
  have bx := Blk.new w 44 #[.int .i64 s, .int .i64 t, .int .i64 f, .int .i64 l, .int .i64 p]
  have B0 := (Below.refl w.heap.size w).alloc (Nat.le_refl _) (.cells #[.int .i64 s, .int .i64 t, .int .i64 f, .int .i64 l, .int .i64 p] 44)
  have bo := Blk.new (w.alloc (.cells #[.int .i64 s, .int .i64 t, .int .i64 f, .int .i64 l, .int .i64 p] 44)) 86 #[.int .i64 5, .int .i64 o, .int .i64 i]
  replace bx := bx.alloc (.cells #[.int .i64 5, .int .i64 o, .int .i64 i] 86)
  replace B0 := B0.alloc B0.size (.cells #[.int .i64 5, .int .i64 o, .int .i64 i] 86)
  rw [World.size_alloc] at bo
  refine (N.out _).mono ?_
  rintro e w1 ⟨rfl, hb1⟩
  replace bx := bx.below hb1 bx.lt
  replace bo := bo.below hb1 bo.lt
  replace B0 := B0.trans (hb1.mono B0.size)
  clear hb1
  have lx := bx.lt
  have lo := bo.lt
  have mx := fun i => bx.cell i
  have mo := fun i => bo.cell i
  go_wp2_with fail
  refine (W1.out _).mono ?_
  rintro e w' ⟨rfl, rfl⟩
  go_wp2_with fail
  refine (D.out _).mono ?_
  rintro e w2 ⟨rfl, hb2⟩
  go_wp2_with fail
  go_ret
  exact ⟨rfl, B0.trans (hb2.mono B0.size)⟩
set_option maxHeartbeats 1000000 in
theorem at_5o (s t f l p o i : Int) (w : World) (hs : 1 ≤ s ∧ s ≤ 1000) (ht : 1 ≤ t ∧ t ≤ 64) (hf : 4 ≤ f ∧ f ≤ 64) (hi : 0 ≤ i ∧ i < 2) (ho : o < 0 ∨ t ≤ o) :
    Calls Tryd.prog 52 #[.agg #[.int .i64 s, .int .i64 t, .int .i64 f, .int .i64 l, .int .i64 p], .agg #[.int .i64 5, .int .i64 o, .int .i64 i]] w fun e w' => e = .returned (.int .i64 (nod s t f 5 o i)) ∧ Below w.heap.size w w' := by
  have N := hide (fun w => none_no s t f l p w hs.1)
  have D := hide (fun w => node_any s t f l p (5) (o) (i) w hs ht hf)
  have W1 := hide (fun w => within_t i 2 w hi.1 hi.2)
  have W2 := hide (fun w => within_f o t w ho)
  clear hi ho
  generalize nod s t f 5 o i = R at *
  go_enter Tryd.func52, Tryd.ntmps52
  go_wp2_with fail
  have bx := Blk.new w 44 #[.int .i64 s, .int .i64 t, .int .i64 f, .int .i64 l, .int .i64 p]
  have B0 := (Below.refl w.heap.size w).alloc (Nat.le_refl _) (.cells #[.int .i64 s, .int .i64 t, .int .i64 f, .int .i64 l, .int .i64 p] 44)
  have bo := Blk.new (w.alloc (.cells #[.int .i64 s, .int .i64 t, .int .i64 f, .int .i64 l, .int .i64 p] 44)) 86 #[.int .i64 5, .int .i64 o, .int .i64 i]
  replace bx := bx.alloc (.cells #[.int .i64 5, .int .i64 o, .int .i64 i] 86)
  replace B0 := B0.alloc B0.size (.cells #[.int .i64 5, .int .i64 o, .int .i64 i] 86)
  rw [World.size_alloc] at bo
  refine (N.out _).mono ?_
  rintro e w1 ⟨rfl, hb1⟩
  replace bx := bx.below hb1 bx.lt
  replace bo := bo.below hb1 bo.lt
  replace B0 := B0.trans (hb1.mono B0.size)
  clear hb1
  have lx := bx.lt
  have lo := bo.lt
  have mx := fun i => bx.cell i
  have mo := fun i => bo.cell i
  go_wp2_with fail
  refine (W1.out _).mono ?_
  rintro e w' ⟨rfl, rfl⟩
  go_wp2_with fail
  refine (W2.out _).mono ?_
  rintro e w' ⟨rfl, rfl⟩
  go_wp2_with fail
  refine (D.out _).mono ?_
  rintro e w2 ⟨rfl, hb2⟩
  go_wp2_with fail
  go_ret
  exact ⟨rfl, B0.trans (hb2.mono B0.size)⟩
set_option maxHeartbeats 1000000 in
theorem at_5 (s t f l p o i : Int) (w : World) (hs : 1 ≤ s ∧ s ≤ 1000) (ht : 1 ≤ t ∧ t ≤ 64) (hi : 0 ≤ i ∧ i < 2) (ho : 0 ≤ o ∧ o < t) :
    Calls Tryd.prog 52 #[.agg #[.int .i64 s, .int .i64 t, .int .i64 f, .int .i64 l, .int .i64 p], .agg #[.int .i64 5, .int .i64 o, .int .i64 i]] w fun e w' => e = .returned (.int .i64 (3 + t + 2 * o + i)) ∧ Below w.heap.size w w' := by
  have N := hide (fun w => none_no s t f l p w hs.1)
  have W1 := hide (fun w => within_t i 2 w hi.1 hi.2)
  have W2 := hide (fun w => within_t o t w ho.1 ho.2)
  have H := hide (fun w => hazards_any s t f l p w ht)
  have h2 : IntKind.i64.wrap (2 * o) = 2 * o := IntWalk.i64_in _ (by omega)
  have h3 : IntKind.i64.wrap (3 + t + 2 * o) = 3 + t + 2 * o := IntWalk.i64_in _ (by omega)
  have h4 : IntKind.i64.wrap (3 + t + 2 * o + i) = 3 + t + 2 * o + i := IntWalk.i64_in _ (by omega)
  clear ho hs ht hi
  go_enter Tryd.func52, Tryd.ntmps52
  go_wp2_with fail
  have bx := Blk.new w 44 #[.int .i64 s, .int .i64 t, .int .i64 f, .int .i64 l, .int .i64 p]
  have B0 := (Below.refl w.heap.size w).alloc (Nat.le_refl _) (.cells #[.int .i64 s, .int .i64 t, .int .i64 f, .int .i64 l, .int .i64 p] 44)
  have bo := Blk.new (w.alloc (.cells #[.int .i64 s, .int .i64 t, .int .i64 f, .int .i64 l, .int .i64 p] 44)) 86 #[.int .i64 5, .int .i64 o, .int .i64 i]
  replace bx := bx.alloc (.cells #[.int .i64 5, .int .i64 o, .int .i64 i] 86)
  replace B0 := B0.alloc B0.size (.cells #[.int .i64 5, .int .i64 o, .int .i64 i] 86)
  rw [World.size_alloc] at bo
  refine (N.out _).mono ?_
  rintro e w1 ⟨rfl, hb1⟩
  replace bx := bx.below hb1 bx.lt
  replace bo := bo.below hb1 bo.lt
  replace B0 := B0.trans (hb1.mono B0.size)
  clear hb1
  have lx := bx.lt
  have lo := bo.lt
  have mx := fun i => bx.cell i
  have mo := fun i => bo.cell i
  go_wp2_with fail
  refine (W1.out _).mono ?_
  rintro e w' ⟨rfl, rfl⟩
  go_wp2_with fail
  refine (W2.out _).mono ?_
  rintro e w' ⟨rfl, rfl⟩
  go_wp2_with fail
  refine wp_region_past (by kernel_rfl) (by kernel_rfl) ?_
  repeat (quiet_step ((first | ((exact calls_past (H.out _))))))
  refine wpQuiet_nil ?_
  intro _ hw'
  obtain ⟨y, hw''⟩ := hw'
  subst hw''
  have hy := past_below w1 y
  go_wp2_with fail
  go_ret
  exact ⟨rfl, B0.trans (hy.mono B0.size)⟩
set_option maxHeartbeats 1000000 in
theorem at_zero (k o i : Int) (w : World) :
    Calls Tryd.prog 52 #[.agg #[.int .i64 0, .int .i64 0, .int .i64 0, .int .i64 0, .int .i64 0], .agg #[.int .i64 k, .int .i64 o, .int .i64 i]] w fun e w' => e = .returned (.int .i64 (-1)) ∧ Below w.heap.size w w' := by
  have N := hide none_yes
  go_enter Tryd.func52, Tryd.ntmps52
  go_wp2_with fail
  have B0 := (Below.refl w.heap.size w).alloc (Nat.le_refl _) (.cells #[.int .i64 0, .int .i64 0, .int .i64 0, .int .i64 0, .int .i64 0] 44)
  replace B0 := B0.alloc B0.size (.cells #[.int .i64 k, .int .i64 o, .int .i64 i] 86)
  refine (N.out _).mono ?_
  rintro e w1 ⟨rfl, hb1⟩
  go_wp2_with fail
  go_ret
  exact ⟨rfl, B0.trans (hb1.mono B0.size)⟩

/-- At, whatever the place. -/
theorem at_any (s t f l p k o i : Int) (w : World) (hs : 1 ≤ s ∧ s ≤ 1000) (ht : 1 ≤ t ∧ t ≤ 64) (hf : 4 ≤ f ∧ f ≤ 64) :
    Calls Tryd.prog 52 #[.agg #[.int .i64 s, .int .i64 t, .int .i64 f, .int .i64 l, .int .i64 p], .agg #[.int .i64 k, .int .i64 o, .int .i64 i]] w fun e w' => e = .returned (.int .i64 (atp s t f k o i)) ∧ Below w.heap.size w w' := by
  by_cases c1 : 1 ≤ k ∧ k ≤ 3 ∧ o = 0 ∧ i = 0
  · rw [show atp s t f k o i = k - 1 from if_pos c1]
    obtain ⟨h1, h2, rfl, rfl⟩ := c1
    have hk : k = 1 ∨ k = 2 ∨ k = 3 := by omega
    rcases hk with rfl | rfl | rfl
    · exact at_first1 s t f l p w hs.1
    · exact at_first2 s t f l p w hs.1
    · exact at_first3 s t f l p w hs.1
  by_cases c2 : k = 4 ∧ i = 0 ∧ 0 ≤ o ∧ o < t
  · rw [show atp s t f k o i = 3 + o by unfold atp; rw [if_neg c1, if_pos c2]]
    obtain ⟨rfl, rfl, h1, h2⟩ := c2
    exact at_4 s t f l p o w hs ht ⟨h1, h2⟩
  by_cases c3 : k = 5 ∧ 0 ≤ i ∧ i < 2 ∧ 0 ≤ o ∧ o < t
  · rw [show atp s t f k o i = 3 + t + 2 * o + i by unfold atp; rw [if_neg c1, if_neg c2, if_pos c3]]
    obtain ⟨rfl, h1, h2, h3, h4⟩ := c3
    exact at_5 s t f l p o i w hs ht ⟨h1, h2⟩ ⟨h3, h4⟩
  rw [show atp s t f k o i = nod s t f k o i by unfold atp; rw [if_neg c1, if_neg c2, if_neg c3]]
  by_cases hk : k < 1 ∨ 5 < k
  · exact at_node s t f l p k o i w hs ht hf hk
  have hk5 : k = 1 ∨ k = 2 ∨ k = 3 ∨ k = 4 ∨ k = 5 := by omega
  rcases hk5 with rfl | rfl | rfl | rfl | rfl
  · by_cases ho : o = 0
    · subst ho
      exact at_c1 s t f l p i w hs ht hf (by simp; omega)
    · exact at_b1 s t f l p o i w hs ht hf (by simpa using ho)
  · by_cases ho : o = 0
    · subst ho
      exact at_c2 s t f l p i w hs ht hf (by simp; omega)
    · exact at_b2 s t f l p o i w hs ht hf (by simpa using ho)
  · by_cases ho : o = 0
    · subst ho
      exact at_c3 s t f l p i w hs ht hf (by simp; omega)
    · exact at_b3 s t f l p o i w hs ht hf (by simpa using ho)
  · by_cases hi : i = 0
    · subst hi
      exact at_4o s t f l p o w hs ht hf (by omega)
    · exact at_4i s t f l p o i w hs ht hf (by simpa using hi)
  · by_cases hi : i < 0 ∨ 2 ≤ i
    · exact at_5i s t f l p o i w hs ht hf hi
    · exact at_5o s t f l p o i w hs ht hf (by omega) (by omega)
end Go.Proofs.YtokcbipmocpllaaDoor

/-
  gleaningref07.Numbers, Wrong; gleaningref08.Size, Place.
-/
namespace Go.Proofs.YtokcbipmocpllaaDoor
open Go.RowKit
attribute [local go_sem] past_cell past_cell_add

/-- The place of the first number that is out of its bounds; -1: there is none. -/
def wrg (s t f l p : Int) : Int := if ¬ (1 ≤ s ∧ s ≤ 1000) then 0 else if ¬ (1 ≤ t ∧ t ≤ 64) then 1 else if ¬ (4 ≤ f ∧ f ≤ 64) then 2 else if ¬ (1 ≤ l ∧ l ≤ 64) then 3 else if ¬ (1 ≤ p ∧ p ≤ 1048576) then 4 else -1
theorem wrg_ok {s t f l p : Int} : cfgOk s t f l p = decide (wrg s t f l p < 0) := by
  rw [Bool.eq_iff_iff, cfgOk_iff, decide_eq_true_eq]
  unfold wrg
  repeat' split
  all_goals omega
theorem wrg_none {s t f l p : Int} (h : ∀ k, k < 5 → cIn s t f l p k) : wrg s t f l p = -1 := by
  have h0 : 1 ≤ s ∧ s ≤ 1000 := h 0 (by omega)
  have h1 : 1 ≤ t ∧ t ≤ 64 := h 1 (by omega)
  have h2 : 4 ≤ f ∧ f ≤ 64 := h 2 (by omega)
  have h3 : 1 ≤ l ∧ l ≤ 64 := h 3 (by omega)
  have h4 : 1 ≤ p ∧ p ≤ 1048576 := h 4 (by omega)
  unfold wrg
  rw [if_neg (by omega), if_neg (by omega), if_neg (by omega), if_neg (by omega), if_neg (by omega)]
theorem wrg_at {s t f l p : Int} {k : Nat} (hk : k < 5) (h : ∀ j, j < k → cIn s t f l p j) (hn : ¬ cIn s t f l p k) : wrg s t f l p = k := by
  unfold wrg
  rcases five hk with rfl | rfl | rfl | rfl | rfl
  · have h0 : ¬ (1 ≤ s ∧ s ≤ 1000) := hn
    rw [if_pos h0]
    rfl
  · have h0 : 1 ≤ s ∧ s ≤ 1000 := h 0 (by omega)
    have h1 : ¬ (1 ≤ t ∧ t ≤ 64) := hn
    rw [if_neg (by omega), if_pos h1]
    rfl
  · have h0 : 1 ≤ s ∧ s ≤ 1000 := h 0 (by omega)
    have h1 : 1 ≤ t ∧ t ≤ 64 := h 1 (by omega)
    have h2 : ¬ (4 ≤ f ∧ f ≤ 64) := hn
    rw [if_neg (by omega), if_neg (by omega), if_pos h2]
    rfl
  · have h0 : 1 ≤ s ∧ s ≤ 1000 := h 0 (by omega)
    have h1 : 1 ≤ t ∧ t ≤ 64 := h 1 (by omega)
    have h2 : 4 ≤ f ∧ f ≤ 64 := h 2 (by omega)
    have h3 : ¬ (1 ≤ l ∧ l ≤ 64) := hn
    rw [if_neg (by omega), if_neg (by omega), if_neg (by omega), if_pos h3]
    rfl
  · have h0 : 1 ≤ s ∧ s ≤ 1000 := h 0 (by omega)
    have h1 : 1 ≤ t ∧ t ≤ 64 := h 1 (by omega)
    have h2 : 4 ≤ f ∧ f ≤ 64 := h 2 (by omega)
    have h3 : 1 ≤ l ∧ l ≤ 64 := h 3 (by omega)
    have h4 : ¬ (1 ≤ p ∧ p ≤ 1048576) := hn
    rw [if_neg (by omega), if_neg (by omega), if_neg (by omega), if_neg (by omega), if_pos h4]
    rfl

set_option maxHeartbeats 400000 in
theorem numbers_any (s t f l p : Int) (w : World) :
    Calls Tryd.prog 33 #[.agg #[.int .i64 s, .int .i64 t, .int .i64 f, .int .i64 l, .int .i64 p]] w fun e w' => (∃ g, e = .returned (.slice (some ⟨g, 0, none⟩) 5 5) ∧ Blk w' g 3 (numA s t f l p)) ∧ Below w.heap.size w w' := by
  go_enter Tryd.func33, Tryd.ntmps33
  go_wp2_with fail
  go_ret
  have h := fun o => Blk.new (w.alloc o) 3 (numA s t f l p)
  simp only [World.size_alloc] at h
  exact ⟨⟨_, rfl, h _⟩, ((Below.refl _ _).alloc (Nat.le_refl _) _).alloc (by simp only [World.size_alloc]; omega) _⟩

set_option maxHeartbeats 1000000 in
theorem wrong_any (s t f l p : Int) (w : World) :
    Calls Tryd.prog 10 #[.agg #[.int .i64 s, .int .i64 t, .int .i64 f, .int .i64 l, .int .i64 p]] w fun e w' => e = .returned (.int .i64 (wrg s t f l p)) ∧ Below w.heap.size w w' := by
  have C := hide (fun w2 => numbers_any s t f l p w2)
  have WN := hide (fun h => wrg_none (s := s) (t := t) (f := f) (l := l) (p := p) h)
  have WA := hide (fun k hk h hn => wrg_at (s := s) (t := t) (f := f) (l := l) (p := p) (k := k) hk h hn)
  generalize wrg s t f l p = R at *
  go_enter Tryd.func10, Tryd.ntmps10
  go_wp2_with fail
  have B0 := (Below.refl w.heap.size w).alloc (Nat.le_refl _) (.cells #[.int .i64 s, .int .i64 t, .int .i64 f, .int .i64 l, .int .i64 p] 36)
  refine (C.out _).mono ?_
  rintro e w1 ⟨⟨g1, rfl, b1⟩, hb1⟩
  replace B0 := B0.trans (hb1.mono B0.size)
  have H1 := hide b1
  have HB := hide B0
  clear b1 hb1 B0
  go_wp2_with fail
  have b1 := (H1.out.alloc (.cells #[.int .i64 1, .int .i64 1, .int .i64 4, .int .i64 1, .int .i64 1] 3)).alloc (.cells #[.int .i64 1000, .int .i64 64, .int .i64 64, .int .i64 64, .int .i64 1048576] 3)
  have b2 := (Blk.new w1 3 #[.int .i64 1, .int .i64 1, .int .i64 4, .int .i64 1, .int .i64 1]).alloc (.cells #[.int .i64 1000, .int .i64 64, .int .i64 64, .int .i64 64, .int .i64 1048576] 3)
  have b3 := Blk.new (w1.alloc (.cells #[.int .i64 1, .int .i64 1, .int .i64 4, .int .i64 1, .int .i64 1] 3)) 3 #[.int .i64 1000, .int .i64 64, .int .i64 64, .int .i64 64, .int .i64 1048576]
  have B0 := (HB.out.alloc HB.out.size (.cells #[.int .i64 1, .int .i64 1, .int .i64 4, .int .i64 1, .int .i64 1] 3)).alloc (by have := HB.out.size; simp only [World.size_alloc]; omega) (.cells #[.int .i64 1000, .int .i64 64, .int .i64 64, .int .i64 64, .int .i64 1048576] 3)
  rw [World.size_alloc] at b3
  generalize (w1.alloc (.cells #[.int .i64 1, .int .i64 1, .int .i64 4, .int .i64 1, .int .i64 1] 3)).alloc (.cells #[.int .i64 1000, .int .i64 64, .int .i64 64, .int .i64 64, .int .i64 1048576] 3) = w2 at *
  have b2 : Blk w2 w1.heap.size 3 (numA 1 1 4 1 1) := b2
  have b3 : Blk w2 (w1.heap.size + 1) 3 (numA 1000 64 64 64 1048576) := b3
  have H1 := hide b1
  have H2 := hide b2
  have H3 := hide b3
  have HB := hide B0
  clear b1 b2 b3 B0
  go_loopw [6] (ChkIn w2 (cIn s t f l p)) (fun i _ => 5 - (intOf i).toNat)
  case atStart => exact ⟨0, rfl, by omega, fun j h => absurd h (by omega), Below.refl _ _⟩
  case round =>
    obtain ⟨k, rfl, hk, hok, hb⟩ := hrel
    have HOK := hide hok
    clear hok
    by_cases hlt : k < 5
    · have z0 := ((H1.out.below hb H1.out.lt).cell k).trans (numA_at s t f l p hlt)
      have z1 := ((H2.out.below hb H2.out.lt).cell k).trans (lo_at hlt)
      have z2 := ((H3.out.below hb H3.out.lt).cell k).trans (hi_at hlt)
      have HI := hide (show cIn s t f l p k ↔ (cLo k ≤ cN s t f l p k ∧ cN s t f l p k ≤ cHi k) from Iff.rfl)
      have hkz : (0 : Int) ≤ (k : Int) := by omega
      have hkz5 : (k : Int) < 5 := by omega
      generalize cN s t f l p k = n at *
      generalize cLo k = lo at *
      generalize cHi k = hi at *
      by_cases c1 : n < lo
      · have E := hide (WA.out k hlt HOK.out (fun h => by have := HI.out.1 h; omega))
        have d1 : decide (n < lo) = true := by simpa using c1
        go_wp2_with fail
        go_quiet (fail)
        go_wp2_with fail
        go_ret
        exact ⟨by rw [E.out]; rfl, HB.out.trans ((below_drewN hb _).mono HB.out.size)⟩
      have d1 : decide (n < lo) = false := by simpa using c1
      by_cases c2 : hi < n
      · have E := hide (WA.out k hlt HOK.out (fun h => by have := HI.out.1 h; omega))
        have d2 : decide (hi < n) = true := by simpa using c2
        go_wp2_with fail
        go_quiet (fail)
        go_wp2_with fail
        go_ret
        exact ⟨by rw [E.out]; rfl, HB.out.trans ((below_drewN hb _).mono HB.out.size)⟩
      · have E := hide (HI.out.2 ⟨by omega, by omega⟩)
        have d2 : decide (hi < n) = false := by simpa using c2
        go_wp2_with fail
        go_quiet (fail)
        go_wp2_with fail
        go_roundw
        case rel => exact ⟨k + 1, by go_num, by omega, fun j hj => by
          by_cases e : j = k
          · subst e
            exact E.out
          · exact HOK.out j (by omega), below_drewN hb _⟩
        case measure => simp [intOf]; omega
    · obtain rfl : k = 5 := by omega
      have E := hide (WN.out HOK.out)
      go_wp2_with fail
      go_ret
      exact ⟨by rw [E.out]; rfl, HB.out.trans (hb.mono HB.out.size)⟩

/-- How many words there are; none where the configuration may not be. -/
def rSize (s t f l p : Int) : Int := if cfgOk s t f l p = true then laySize s t f else 0
set_option maxHeartbeats 1000000 in
theorem rsize_any (s t f l p : Int) (w : World) :
    Calls Tryd.prog 11 #[.agg #[.int .i64 s, .int .i64 t, .int .i64 f, .int .i64 l, .int .i64 p]] w fun e w' => e = .returned (.int .i64 (rSize s t f l p)) ∧ Below w.heap.size w w' := by
  have C := hide (fun w2 => wrong_any s t f l p w2)
  have hok := wrg_ok (s := s) (t := t) (f := f) (l := l) (p := p)
  have bx := Blk.new w 36 #[.int .i64 s, .int .i64 t, .int .i64 f, .int .i64 l, .int .i64 p]
  have B0 := (Below.refl w.heap.size w).alloc (Nat.le_refl _) (.cells #[.int .i64 s, .int .i64 t, .int .i64 f, .int .i64 l, .int .i64 p] 36)
  cases hc : cfgOk s t f l p with
  | false =>
    have E := hide (show rSize s t f l p = 0 by unfold rSize; rw [hc]; rfl)
    rw [hc] at hok
    have hw : 0 ≤ wrg s t f l p := by
      have : ¬ wrg s t f l p < 0 := by simpa using hok.symm
      omega
    clear hok hc
    generalize wrg s t f l p = r at *
    go_enter Tryd.func11, Tryd.ntmps11
    go_wp2_with fail
    refine (C.out _).mono ?_
    rintro e w1 ⟨rfl, hb1⟩
    go_wp2_with fail
    go_ret
    exact ⟨by rw [E.out]; rfl, B0.trans (hb1.mono B0.size)⟩
  | true =>
    have E := hide (show rSize s t f l p = laySize s t f by unfold rSize; rw [hc]; rfl)
    rw [hc] at hok
    have hw : wrg s t f l p < 0 := by simpa using hok.symm
    have hb := cfgOk_iff.1 hc
    have z := size_pos (s := s) (t := t) (f := f) (by omega) (by omega) (by omega)
    have h0 : IntKind.i64.wrap (3 * t) = 3 * t := IntWalk.i64_in _ (by omega)
    have h1 : IntKind.i64.wrap (3 + 3 * t) = 3 + 3 * t := IntWalk.i64_in _ (by omega)
    have h2 : IntKind.i64.wrap (2 * f) = 2 * f := IntWalk.i64_in _ (by omega)
    have h3 : IntKind.i64.wrap (s + 1) = s + 1 := IntWalk.i64_in _ (by omega)
    have h4 : IntKind.i64.wrap ((s + 1) * (3 + 2 * f)) = (s + 1) * (3 + 2 * f) := IntWalk.i64_in _ (by unfold laySize at z; omega)
    have h5 : IntKind.i64.wrap (3 + 3 * t + (s + 1) * (3 + 2 * f)) = laySize s t f := by unfold laySize at z ⊢; exact IntWalk.i64_in _ (by omega)
    have h6 : IntKind.i64.wrap (3 + 2 * f) = 3 + 2 * f := IntWalk.i64_in _ (by omega)
    clear hok hc z hb
    generalize laySize s t f = R at *
    generalize wrg s t f l p = r at *
    go_enter Tryd.func11, Tryd.ntmps11
    go_wp2_with fail
    refine (C.out _).mono ?_
    rintro e w1 ⟨rfl, hb1⟩
    replace bx := bx.below hb1 bx.lt
    replace B0 := B0.trans (hb1.mono B0.size)
    clear hb1
    have mx := fun i => bx.cell i
    go_wp2_with fail

    go_ret
    exact ⟨by rw [E.out]; rfl, B0⟩
end Go.Proofs.YtokcbipmocpllaaDoor

/-
  layout: Announce, Hazard, Link (for seats without chapter 8's statements); the document's own numbers of them.
-/
namespace Go.Proofs.YtokcbipmocpllaaDoor
open Go.RowKit
attribute [local go_sem] past_cell past_cell_add

set_option maxHeartbeats 400000 in
theorem lhaz_any (s t f l p o i : Int) (w : World) (hs : 1 ≤ s ∧ s ≤ 1000) (ht : 1 ≤ t ∧ t ≤ 64) (hf : 4 ≤ f ∧ f ≤ 64) :
    Calls Tryd.prog 53 #[.agg #[.int .i64 s, .int .i64 t, .int .i64 f, .int .i64 l, .int .i64 p], .int .i64 o, .int .i64 i] w fun e w' => e = .returned (.int .i64 (atp s t f 5 o i)) ∧ Below w.heap.size w w' := by
  have A := hide (fun w => at_any s t f l p 5 o i w hs ht hf)
  generalize atp s t f 5 o i = R at *
  go_enter Tryd.func53, Tryd.ntmps53
  go_wp2_with fail
  have B0 := (Below.refl w.heap.size w).alloc (Nat.le_refl _) (.cells #[.int .i64 s, .int .i64 t, .int .i64 f, .int .i64 l, .int .i64 p] 44)
  refine (A.out _).mono ?_
  rintro e w1 ⟨rfl, hb1⟩
  go_wp2_with fail
  go_ret
  exact ⟨rfl, B0.trans (hb1.mono B0.size)⟩
set_option maxHeartbeats 400000 in
theorem lhaz_zero (o i : Int) (w : World) :
    Calls Tryd.prog 53 #[.agg #[.int .i64 0, .int .i64 0, .int .i64 0, .int .i64 0, .int .i64 0], .int .i64 o, .int .i64 i] w fun e w' => e = .returned (.int .i64 (-1)) ∧ Below w.heap.size w w' := by
  have A := hide (fun w => at_zero 5 o i w)
  go_enter Tryd.func53, Tryd.ntmps53
  go_wp2_with fail
  have B0 := (Below.refl w.heap.size w).alloc (Nat.le_refl _) (.cells #[.int .i64 0, .int .i64 0, .int .i64 0, .int .i64 0, .int .i64 0] 44)
  refine (A.out _).mono ?_
  rintro e w1 ⟨rfl, hb1⟩
  go_wp2_with fail
  go_ret
  exact ⟨rfl, B0.trans (hb1.mono B0.size)⟩
set_option maxHeartbeats 400000 in
theorem llnk_any (s t f l p o  : Int) (w : World) (hs : 1 ≤ s ∧ s ≤ 1000) (ht : 1 ≤ t ∧ t ≤ 64) (hf : 4 ≤ f ∧ f ≤ 64) :
    Calls Tryd.prog 82 #[.agg #[.int .i64 s, .int .i64 t, .int .i64 f, .int .i64 l, .int .i64 p], .int .i64 o] w fun e w' => e = .returned (.int .i64 (atp s t f 8 o 0)) ∧ Below w.heap.size w w' := by
  have A := hide (fun w => at_any s t f l p 8 o 0 w hs ht hf)
  generalize atp s t f 8 o 0 = R at *
  go_enter Tryd.func82, Tryd.ntmps82
  go_wp2_with fail
  have B0 := (Below.refl w.heap.size w).alloc (Nat.le_refl _) (.cells #[.int .i64 s, .int .i64 t, .int .i64 f, .int .i64 l, .int .i64 p] 44)
  refine (A.out _).mono ?_
  rintro e w1 ⟨rfl, hb1⟩
  go_wp2_with fail
  go_ret
  exact ⟨rfl, B0.trans (hb1.mono B0.size)⟩
set_option maxHeartbeats 400000 in
theorem llnk_zero (o  : Int) (w : World) :
    Calls Tryd.prog 82 #[.agg #[.int .i64 0, .int .i64 0, .int .i64 0, .int .i64 0, .int .i64 0], .int .i64 o] w fun e w' => e = .returned (.int .i64 (-1)) ∧ Below w.heap.size w w' := by
  have A := hide (fun w => at_zero 8 o 0 w)
  go_enter Tryd.func82, Tryd.ntmps82
  go_wp2_with fail
  have B0 := (Below.refl w.heap.size w).alloc (Nat.le_refl _) (.cells #[.int .i64 0, .int .i64 0, .int .i64 0, .int .i64 0, .int .i64 0] 44)
  refine (A.out _).mono ?_
  rintro e w1 ⟨rfl, hb1⟩
  go_wp2_with fail
  go_ret
  exact ⟨rfl, B0.trans (hb1.mono B0.size)⟩

theorem atp4 {s t f o : Int} (h : 0 ≤ o ∧ o < t) : atp s t f 4 o 0 = 3 + o := by
  unfold atp
  rw [if_neg (by omega), if_pos (by omega)]
theorem atp4_no {s t f o : Int} (h : o < 0 ∨ t ≤ o) : atp s t f 4 o 0 = -1 := by
  unfold atp
  rw [if_neg (by omega), if_neg (by omega), if_neg (by omega)]
  unfold nod
  rw [if_pos (by omega)]
theorem atp5 {s t f o i : Int} (h : 0 ≤ o ∧ o < t) (hi : 0 ≤ i ∧ i < 2) : atp s t f 5 o i = 3 + t + 2 * o + i := by
  unfold atp
  rw [if_neg (by omega), if_neg (by omega), if_pos (by omega)]
theorem atp8 {s t f o : Int} (h : 0 ≤ o ∧ o ≤ s) : atp s t f 8 o 0 = 3 + 3 * t + o * (3 + 2 * f) + 2 := by
  unfold atp
  rw [if_neg (by omega), if_neg (by omega), if_neg (by omega)]
  unfold nod
  rw [if_neg (by unfold nodMany; simp; omega)]
  simp [nodAt]
theorem atp_first {s t f k : Int} (h : 1 ≤ k ∧ k ≤ 3) : atp s t f k 0 0 = k - 1 := by
  unfold atp
  rw [if_pos (by omega)]
end Go.Proofs.YtokcbipmocpllaaDoor

/-
  Package sweep: a copy of its lists; its beginning.
-/
namespace Go.Proofs.YtokcbipmocpllaaDoor
open Go.RowKit

/-- v is a slice of these records, in a block from lo on. -/
def OwnR (w : World) (lo : Nat) (v : Value) (n : Nat) (l : List (Int × Int)) : Prop := w.ownsRow lo 31 2 v n (rec2 l)
theorem infoRecs : (Tryd.prog.info? 31).map (fun i => (i.zero, i.size, i.bytes)) = some (some (.agg #[.int .u64 0, .int .u64 0]), 2, 16) := by kernel_rfl
theorem rec2_one (l : List (Int × Int)) : ∀ u ∈ rec2 l, u.oneCell' = true := by
  intro u hu
  unfold rec2 at hu
  rw [List.mem_flatMap] at hu
  obtain ⟨r, _, hr⟩ := hu
  simp only [List.mem_cons, List.not_mem_nil, or_false] at hr
  rcases hr with rfl | rfl <;> rfl
set_option maxRecDepth 100000 in
set_option maxHeartbeats 1000000 in
theorem clonr_any (A : Option Addr) (n c : Nat) (l : List (Int × Int)) (w : World) (hn : n ≤ 1000) (hr : Reads w w.heap.size 2 A n (rec2 l)) :
    Calls Tryd.prog 58 #[.slice A n c] w fun e w' => (∃ A1 c1, e = .returned (.slice A1 n c1) ∧ OwnR w' w.heap.size (.slice A1 n c1) n l) ∧ Below w.heap.size w w' := by
  obtain ⟨i0, hi0, hz0, hs0, hb0⟩ := info_parts infoRecs
  have q22 : ∀ (w : World) (a : Option Addr) (n c n' c' : Nat), (binOp .eql 22 (.slice a n c) (.slice none n' c')).run Tryd.prog w = .ok (.bool a.isNone) w := fun w a n c n' c' => Lib.run_eql_slice_nil w _ _ a n c n' c' Tryd.underlying22
  rcases A with _ | a
  · have hn0 : n = 0 := by
      rcases Nat.eq_zero_or_pos n with h | h
      · exact h
      · obtain ⟨ad, h, _⟩ := hr.2 h
        cases h
    subst hn0
    have hl : l = [] := List.eq_nil_of_length_eq_zero (by have := hr.lenPair; omega)
    subst hl
    go_enter Tryd.func58, Tryd.ntmps58
    go_wp2_with fail
    go_ret
    exact ⟨⟨_, _, rfl, World.ownsRow_nil _ _ _ _⟩, Below.refl _ _⟩
  · go_enter Tryd.func58, Tryd.ntmps58
    have ho : (w.alloc (.cells #[] 31)).ownsRow w.heap.size 31 2 (.slice (some ⟨w.heap.size, 0, none⟩) 0 0) 0 [] := World.ownsRow_made w #[] 0 (Nat.le_refl _) (Nat.zero_le _) rfl
    have hr1 := hr.alloc (Nat.le_refl _) (.cells #[] 31)
    go_wp2_with (at_builtin; refine wpList_append_any _ rfl (.tmp 5) (.tmp 6) _ rfl w.heap.size 31 i0 _ 2 16 Tryd.underlying22 hi0 hz0 hs0 hb0 rfl (by omega) _ 0 [] rfl ho w.heap.size (some a) n c (rec2 l) rfl hr1 (rec2_one l) (by unfold maxLen; omega) (by omega) (by simp) ?_; intro v3 w3 hown3 hg3 hat3)
    obtain ⟨A3, c3, rfl, _⟩ := own_reads hown3
    go_ret
    exact ⟨⟨A3, c3, by rw [Nat.zero_add]; rfl, by unfold OwnR; simpa using hown3⟩, below_appended ((Below.refl _ _).alloc (Nat.le_refl _) _) ho hg3 (Nat.le_refl _) (by simp)⟩
set_option maxRecDepth 100000 in
set_option maxHeartbeats 1000000 in
theorem copied_any (A : Option Addr) (n c : Nat) (l : List (Int × Int)) (v : Value) (ks : List Int) (w : World) (hn : n ≤ 1000) (hk : ks.length ≤ 1000) (hr : Reads w w.heap.size 2 A n (rec2 l)) (hs : Sl w w.heap.size v ks) :
    Calls Tryd.prog 40 #[.agg #[.slice A n c, v]] w fun e w' => (∃ A1 c1 u, e = .returned (.agg #[.slice A1 n c1, u]) ∧ OwnR w' w.heap.size (.slice A1 n c1) n l ∧ Own w' w.heap.size u ks) ∧ Below w.heap.size w w' := by
  obtain ⟨A2, c2, rfl, q1, q2, q3⟩ := hs
  have HS := hide (show Sl w w.heap.size (.slice A2 ks.length c2) ks from ⟨A2, c2, rfl, q1, q2, q3⟩)
  have C1 := hide (fun w2 (h : Below w.heap.size w w2) => clonr_any A n c l w2 hn ((hr.below h).more h.size))
  have C2 := hide (fun w2 (h : Below w.heap.size w w2) => clone_any (.slice A2 ks.length c2) ks w2 (by omega) ((HS.out.below h).more h.size))
  have B0 := ((Below.refl w.heap.size w).alloc (Nat.le_refl _) (.cells #[.slice A n c, .slice A2 ks.length c2] 25)).alloc (by simp only [World.size_alloc]; omega) (.cells #[.slice none 0 0, .slice none 0 0] 25)
  have bx := (Blk.new w 25 #[.slice A n c, .slice A2 ks.length c2]).alloc (.cells #[.slice none 0 0, .slice none 0 0] 25)
  have bo := Blk.new (w.alloc (.cells #[.slice A n c, .slice A2 ks.length c2] 25)) 25 #[.slice none 0 0, .slice none 0 0]
  simp only [World.size_alloc] at bo
  clear q1 q2 q3 hn hk hr
  go_enter Tryd.func40, Tryd.ntmps40
  go_wp2_with fail
  generalize (w.alloc (.cells #[.slice A n c, .slice A2 ks.length c2] 25)).alloc (.cells #[.slice none 0 0, .slice none 0 0] 25) = w0 at *
  refine wp_region_heldZ [7] (fun w' => w'.cell? ⟨w.heap.size, 0, none⟩ = some (.slice A n c) ∧ w'.cell? ⟨w.heap.size, 1, none⟩ = some (.slice A2 ks.length c2)) (by kernel_rfl) (by exact ⟨bx.cell 0, bx.cell 1⟩) (fun hHeld => ?_)
  replace bx := bx.drew
  replace bo := bo.drew
  replace B0 := B0.drew
  generalize w0.drew = wd at *
  refine' wpAnyZ_takeA (i := 0) (v := ?_) (opAt rfl) (by kernel_rfl) (by kernel_rfl) (by kernel_rfl) (by kernel_rfl) (fun _ _ _ h => h) (by assumption) (by rfl) (fun w hSw => ?_) ?_
  rotate_left
  · (try dsimp only at hSw); go_simp; (try with_reducible rfl)
  try simp only [Act.put, List.setIfInBounds_toArray, List.set_cons_zero, List.set_cons_succ]
  refine' wpAnyZ_takeA (i := 1) (v := ?_) (opAt rfl) (by kernel_rfl) (by kernel_rfl) (by kernel_rfl) (by kernel_rfl) (fun _ _ _ h => h) (by assumption) (by rfl) (fun w hSw => ?_) ?_
  rotate_left
  · (try dsimp only at hSw); go_simp; (try with_reducible rfl)
  try simp only [Act.put, List.setIfInBounds_toArray, List.set_cons_zero, List.set_cons_succ]
  refine' wpAnyZ_takeA (i := 3) (v := ?_) (opAt rfl) (by kernel_rfl) (by kernel_rfl) (by kernel_rfl) (by kernel_rfl) (fun _ _ _ h => h) (by assumption) (by rfl) (fun w hSw => ?_) ?_
  rotate_left
  · (try dsimp only at hSw); go_simp; (try with_reducible rfl)
  try simp only [Act.put, List.setIfInBounds_toArray, List.set_cons_zero, List.set_cons_succ]
  refine' wpAnyZ_takeA (i := 4) (v := ?_) (opAt rfl) (by kernel_rfl) (by kernel_rfl) (by kernel_rfl) (by kernel_rfl) (fun _ _ _ h => h) (by assumption) (by rfl) (fun w hSw => ?_) ?_
  rotate_left
  · (try dsimp only at hSw); go_simp; (try with_reducible rfl)
  try simp only [Act.put, List.setIfInBounds_toArray, List.set_cons_zero, List.set_cons_succ]
  refine wpAnyZ_ready (rs := [2]) (by kernel_rfl) (by simp) ?_
  refine AllReadyZ.cons (opAt rfl) (fun K hK => ?_) ?_
  · skip
    go_simp
    refine (C1.out _ B0).mono ?_
    rintro e w1 ⟨⟨A3, c3, rfl, o3⟩, hb1⟩
    have o3 := own_mono o3 (show w.heap.size + 2 ≤ _ by have := bo.lt; omega)
    replace bx := bx.below hb1 bx.lt
    replace bo := bo.below hb1 bo.lt
    replace B0 := B0.trans (hb1.mono B0.size)
    clear hb1
    try go_wp2_with fail
    refine hK.out _ _ (by exact ⟨bx.cell 0, bx.cell 1⟩) (fun hHeld => ?_)
    clear hK K
    try simp only [Act.put, List.setIfInBounds_toArray, List.set_cons_zero, List.set_cons_succ]
    refine wpAnyZ_ready (rs := [5]) (by kernel_rfl) (by simp) ?_
    refine AllReadyZ.cons (opAt rfl) (fun K hK => ?_) ?_
    · skip
      go_simp
      refine (C2.out _ B0).mono ?_
      rintro e w2 ⟨⟨u4, rfl, o4⟩, hb1⟩
      have o4 := own_mono o4 (show w.heap.size + 2 ≤ _ by have := bo.lt; omega)
      replace o3 := own_below o3 hb1
      replace bx := bx.below hb1 bx.lt
      replace bo := bo.below hb1 bo.lt
      replace B0 := B0.trans (hb1.mono B0.size)
      obtain ⟨A4, c4, rfl⟩ := Own.val o4
      clear hb1
      try go_wp2_with fail
      refine hK.out _ _ (by exact ⟨bx.cell 0, bx.cell 1⟩) (fun hHeld => ?_)
      clear hK K
      try simp only [Act.put, List.setIfInBounds_toArray, List.set_cons_zero, List.set_cons_succ]
      refine' wpAnyZ_takeA (i := 6) (v := ?_) (opAt rfl) (by kernel_rfl) (by kernel_rfl) (by kernel_rfl) (by kernel_rfl) (fun _ _ _ h => h) (by assumption) (by rfl) (fun w hSw => ?_) ?_
      rotate_left
      · (try dsimp only at hSw); go_simp; (try with_reducible rfl)
      try simp only [Act.put, List.setIfInBounds_toArray, List.set_cons_zero, List.set_cons_succ]
      refine wpAnyZ_ready (rs := [7]) (by kernel_rfl) (by simp) ?_
      refine AllReadyZ.last (opAt rfl) (by kernel_rfl) (fun K hK => ?_) ?_
      · skip
        have mo := fun i => bo.cell i
        have zo := fun i => bo.frozen i
        go_simp
        refine hK.out _ _ ?_
        clear hK K
        try simp only [Act.put, List.setIfInBounds_toArray, List.set_cons_zero, List.set_cons_succ]
        refine wpAnyZ_done (by kernel_rfl) ?_ _
        clear mo zo
        replace o3 := own_setCell_far (own_setCell_far o3 (p := ⟨w.heap.size + 1, 0, none⟩) (show w.heap.size + 1 < w.heap.size + 2 by omega) (.slice A3 n c3)) (p := ⟨w.heap.size + 1, 1, none⟩) (show w.heap.size + 1 < w.heap.size + 2 by omega) (.slice A4 ks.length c4)
        replace o4 := own_setCell_far (own_setCell_far o4 (p := ⟨w.heap.size + 1, 0, none⟩) (show w.heap.size + 1 < w.heap.size + 2 by omega) (.slice A3 n c3)) (p := ⟨w.heap.size + 1, 1, none⟩) (show w.heap.size + 1 < w.heap.size + 2 by omega) (.slice A4 ks.length c4)
        replace bo := (bo.set_ 0 (.slice A3 n c3)).set_ 1 (.slice A4 ks.length c4)
        replace B0 := (B0.setCell (p := ⟨w.heap.size + 1, 0, none⟩) (show w.heap.size ≤ w.heap.size + 1 by omega) (.slice A3 n c3)).setCell (p := ⟨w.heap.size + 1, 1, none⟩) (show w.heap.size ≤ w.heap.size + 1 by omega) (.slice A4 ks.length c4)
        generalize (w2.setCell ⟨w.heap.size + 1, 0, none⟩ (.slice A3 n c3)).setCell ⟨w.heap.size + 1, 1, none⟩ (.slice A4 ks.length c4) = w9 at *
        have mo := fun i => bo.cell i
        go_wp2_with fail
        refine bodyPost_ret (v := .agg #[.slice A3 n c3, .slice A4 ks.length c4]) (by simp [results, Tryd.results40, go_sem, mo]) rfl ⟨⟨A3, c3, _, rfl, own_mono o3 (by omega), own_mono o4 (by omega)⟩, B0⟩
      exact AllReadyZ.nil
    exact AllReadyZ.nil
  exact AllReadyZ.nil
end Go.Proofs.YtokcbipmocpllaaDoor

/-
  A store of many cells into one block.
-/
namespace Go.Proofs.YtokcbipmocpllaaDoor
open Go.RowKit

/-- So many cells, one behind the other. -/
def putL (w : World) (g : Nat) : Nat → List Value → World
  | _, [] => w
  | k, v :: vs => putL (w.setCell ⟨g, k, none⟩ v) g (k + 1) vs
def setL (cs : Array Value) : Nat → List Value → Array Value
  | _, [] => cs
  | k, v :: vs => setL (cs.setIfInBounds k v) (k + 1) vs
theorem Blk.putL {g : Nat} {T : TypeId} : ∀ (vs : List Value) (w : World) (cs : Array Value) (k : Nat), Blk w g T cs → Blk (putL w g k vs) g T (setL cs k vs)
  | [], _, _, _, h => h
  | v :: vs, _, _, k, h => Blk.putL vs _ _ (k + 1) (h.set_ k v)
theorem Blk.offL {g x : Nat} {T : TypeId} {cs : Array Value} (hne : x ≠ g) : ∀ (vs : List Value) (w : World) (k : Nat), Blk w x T cs → Blk (Proofs.YtokcbipmocpllaaDoor.putL w g k vs) x T cs
  | [], _, _, h => h
  | v :: vs, _, k, h => Blk.offL hne vs _ (k + 1) (h.far (p := ⟨g, k, none⟩) hne v)
theorem Below.putL {g L : Nat} {w0 : World} (hg : L ≤ g) : ∀ (vs : List Value) (w : World) (k : Nat), Below L w0 w → Below L w0 (Proofs.YtokcbipmocpllaaDoor.putL w g k vs)
  | [], _, _, h => h
  | v :: vs, _, k, h => Below.putL hg vs _ (k + 1) (h.setCell (p := ⟨g, k, none⟩) hg v)
theorem own_putL {g lo : Nat} {e : TypeId} {s n : Nat} {xs : List Value} {u : Value} (hg : g < lo) : ∀ (vs : List Value) (w : World) (k : Nat), w.ownsRow lo e s u n xs → (putL w g k vs).ownsRow lo e s u n xs
  | [], _, _, h => h
  | v :: vs, _, k, h => own_putL hg vs _ (k + 1) (own_setCell_far h (p := ⟨g, k, none⟩) hg v)
theorem own_set1 {w : World} {base n g j : Nat} {e T : TypeId} {s : Nat} {v : Value} {xs : List Value} {cs : Array Value} (h : w.ownsRow base e s v n xs) (hb : Blk w g T cs) (hne : e ≠ T) (u : Value) : (w.setCell ⟨g, j, none⟩ u).ownsRow base e s v n xs :=
  h.kept (row := some g) ⟨rfl, rfl, rfl, by rw [World.size_setCell]; exact Nat.le_refl _, fun k _ hk => Below.heap_setCell w ⟨g, j, none⟩ u k (fun e => hk (by rw [e]))⟩ (.inr (own_blk_ne h hb hne))
theorem own_putT {g lo : Nat} {e T : TypeId} {s n : Nat} {xs : List Value} {u : Value} (hne : e ≠ T) : ∀ (vs : List Value) (w : World) (cs : Array Value) (k : Nat), Blk w g T cs → w.ownsRow lo e s u n xs → (putL w g k vs).ownsRow lo e s u n xs
  | [], _, _, _, _, h => h
  | v :: vs, _, _, k, hb, h => own_putT hne vs _ _ (k + 1) (hb.set_ k v) (own_set1 h hb hne v)
theorem size_putL {g : Nat} : ∀ (vs : List Value) (w : World) (k : Nat), (putL w g k vs).heap.size = w.heap.size
  | [], _, _ => rfl
  | v :: vs, w, k => by
    show (putL (w.setCell ⟨g, k, none⟩ v) g (k + 1) vs).heap.size = w.heap.size
    rw [size_putL vs]
    exact World.size_setCell _ _ _
/-- The kit's own name for such a store. -/
theorem putL_eq {g : Nat} : ∀ (vs : List Value) (w : World) (k : Nat), w.setCells g k vs = putL w g k vs
  | [], _, _ => rfl
  | v :: vs, w, k => by
    show (w.setCell ⟨g, k, none⟩ v).setCells g (k + 1) vs = putL (w.setCell ⟨g, k, none⟩ v) g (k + 1) vs
    exact putL_eq vs _ _
theorem Blk.range {w : World} {g : Nat} {T : TypeId} {cs : Array Value} (h : Blk w g T cs) : w.rangeAt g 0 cs.toList := fun j v hv => by
  rw [Nat.zero_add, h.cell j]
  simpa using hv
theorem Blk.there {w : World} {g n : Nat} {T : TypeId} {cs : Array Value} (h : Blk w g T cs) (hn : cs.size = n) : w.there g 0 n := fun j hj => by
  refine ⟨?_, ?_⟩
  · rw [Nat.zero_add, h.cell j]
    simp [hn, hj]
  · rw [Nat.zero_add]
    exact h.frozen j
end Go.Proofs.YtokcbipmocpllaaDoor

/-
  A slice that reads as a list of cells, in a block of a type that is known; the laws by which it stays.
-/
namespace Go.Proofs.YtokcbipmocpllaaDoor
open Go.RowKit

/-- A block's number that no list lies in: which one, the surroundings say (one instance for a whole walk). -/
structure GhT where
  g : Nat
def ghB [Inhabited GhT] : Nat := (default : GhT).g
/-- v is a slice of n elements of s cells each, these, in a block of the type e, and not in the block ghB. -/
def Tr [Inhabited GhT] (w : World) (e : TypeId) (s : Nat) (v : Value) (n : Nat) (xs : List Value) : Prop :=
  ∃ A c, v = .slice A n c ∧ n ≤ c ∧ c ≤ 9223372036854775807 ∧ (A = none → n = 0 ∧ c = 0) ∧ Reads w w.heap.size s A n xs ∧ (∀ ad, A = some ad → ∃ cs cur, w.heap[ad.block]? = some (Obj.cells cs e cur)) ∧ ghB < w.heap.size ∧ ∀ ad, A = some ad → ad.block ≠ ghB

theorem heap_lt {w : World} {g : Nat} {o : Obj} (h : w.heap[g]? = some o) : g < w.heap.size := by
  rcases Nat.lt_or_ge g w.heap.size with hlt | hge
  · exact hlt
  · rw [Array.getElem?_eq_none hge] at h; cases h

section
variable {w w' : World} {e : TypeId} {s n : Nat} {v : Value} {xs : List Value}
theorem Tr.keep [Inhabited GhT] (h : Tr w e s v n xs) (hz : w.heap.size ≤ w'.heap.size) (hk : ∀ (g : Nat) (cs : Array Value) cur, w.heap[g]? = some (Obj.cells cs e cur) → w'.heap[g]? = w.heap[g]?) : Tr w' e s v n xs := by
  obtain ⟨A, c, h1, h2, h3, h4, h5, h6, h7, h8⟩ := h
  refine ⟨A, c, h1, h2, h3, h4, ⟨h5.1, fun hn => ?_⟩, fun ad hA => ?_, Nat.lt_of_lt_of_le h7 hz, h8⟩
  · obtain ⟨ad, e1, hb, hc⟩ := h5.2 hn
    obtain ⟨cs, cur, hh⟩ := h6 ad e1
    refine ⟨ad, e1, by omega, fun j u hu => ?_⟩
    rw [← hc j u hu]
    exact World.cell?_of_block (by rw [block_of_add]; exact hk _ _ _ hh)
  · obtain ⟨cs, cur, hh⟩ := h6 ad hA
    exact ⟨cs, cur, (hk _ _ _ hh).trans hh⟩
theorem Tr.below [Inhabited GhT] {B : Nat} (h : Tr w e s v n xs) (hB : w.heap.size ≤ B) (hb : Below B w w') : Tr w' e s v n xs :=
  h.keep hb.size fun g _ _ hh => hb.block g (Nat.lt_of_lt_of_le (heap_lt hh) hB)
theorem Tr.drew [Inhabited GhT] (h : Tr w e s v n xs) : Tr w.drew e s v n xs := h.keep (Nat.le_refl _) fun _ _ _ _ => rfl
theorem Tr.drewN [Inhabited GhT] (h : Tr w e s v n xs) (k : Nat) : Tr (w.drewN k) e s v n xs := h.keep (Nat.le_refl _) fun _ _ _ _ => rfl
theorem Tr.alloc [Inhabited GhT] (h : Tr w e s v n xs) (o : Obj) : Tr (w.alloc o) e s v n xs :=
  h.keep (by simp) fun g _ _ hh => Below.heap_alloc w o g (heap_lt hh)
theorem Tr.set_ [Inhabited GhT] {g : Nat} {T : TypeId} {cs : Array Value} (h : Tr w e s v n xs) (hb : Blk w g T cs) (hne : e ≠ T) (i : Nat) (u : Value) : Tr (w.setCell ⟨g, i, none⟩ u) e s v n xs :=
  h.keep (by rw [World.size_setCell]; exact Nat.le_refl _) fun g' cs' cur hh => Below.heap_setCell w ⟨g, i, none⟩ u g' (fun he => by
    subst he
    unfold Blk at hb
    rw [hb] at hh
    injection hh with hh
    injection hh with _ ht
    exact hne ht.symm)
theorem Tr.putL [Inhabited GhT] {g : Nat} {T : TypeId} {cs : Array Value} (hne : e ≠ T) (vs : List Value) (k : Nat) (hb : Blk w g T cs) (h : Tr w e s v n xs) : Tr (Proofs.YtokcbipmocpllaaDoor.putL w g k vs) e s v n xs := by
  induction vs generalizing w cs k with
  | nil => exact h
  | cons u us ih => exact ih (k + 1) (hb.set_ k u) (h.set_ hb hne k u)
theorem Tr.grown [Inhabited GhT] {row : Option Nat} (h : Tr w e s v n xs) (hg : w.grownBy w' row) (hr : ∀ g, row = some g → ∀ cs cur, w.heap[g]? ≠ some (Obj.cells cs e cur)) : Tr w' e s v n xs :=
  h.keep hg.size fun g cs cur hh => hg.block g (heap_lt hh) (fun he => hr g he.symm cs cur hh)
theorem Tr.grown_none [Inhabited GhT] (h : Tr w e s v n xs) (hg : w.grownBy w' none) : Tr w' e s v n xs := h.grown hg (fun _ he => by cases he)
theorem Tr.appended [Inhabited GhT] {base m : Nat} {e2 : TypeId} {s2 : Nat} {u : Value} {ys : List Value} (h : Tr w e s v n xs) (ho : w.ownsRow base e2 s2 u m ys) (hne : e2 ≠ e) (hg : w.grownBy w' u.ownBlock) : Tr w' e s v n xs :=
  h.grown hg (fun g he cs cur hh => by
    rcases ho.2 with ⟨rfl, _⟩ | ⟨g', cap, cur', rfl, _, hh', _⟩
    · simp [Value.ownBlock] at he
    · have : g' = g := by simpa [Value.ownBlock] using he
      subst this
      rw [hh'] at hh
      injection hh with hh
      injection hh with _ ht
      exact hne ht)
theorem Tr.gh [Inhabited GhT] (h : Tr w e s v n xs) : ghB < w.heap.size := by obtain ⟨_, _, _, _, _, _, _, _, h, _⟩ := h; exact h
theorem Tr.ne [Inhabited GhT] {A : Option Addr} {c : Nat} (h : Tr w e s (.slice A n c) n xs) : ∀ ad, A = some ad → ad.block ≠ ghB := by
  obtain ⟨A', c', he, _, _, _, _, _, _, h8⟩ := h
  injection he with he _ hc
  subst he
  exact h8
/-- The block ghB is written. -/
theorem Tr.wrote [Inhabited GhT] (h : Tr w e s v n xs) (hg : w.grownBy w' (some ghB)) : Tr w' e s v n xs := by
  obtain ⟨A, c, h1, h2, h3, h4, h5, h6, h7, h8⟩ := h
  refine ⟨A, c, h1, h2, h3, h4, ⟨h5.1, fun hn => ?_⟩, fun ad hA => ?_, Nat.lt_of_lt_of_le h7 hg.size, h8⟩
  · obtain ⟨ad, e1, hb, hc⟩ := h5.2 hn
    obtain ⟨cs, cur, hh⟩ := h6 ad e1
    refine ⟨ad, e1, Nat.lt_of_lt_of_le hb hg.size, fun j u hu => ?_⟩
    rw [← hc j u hu]
    exact World.cell?_of_block (by rw [block_of_add]; exact hg.block _ hb (fun h => h8 ad e1 (by injection h)))
  · obtain ⟨cs, cur, hh⟩ := h6 ad hA
    exact ⟨cs, cur, (hg.block _ (heap_lt hh) (fun h => h8 ad hA (by injection h))).trans hh⟩
theorem Tr.of_own [Inhabited GhT] {base : Nat} (h : w.ownsRow base e s v n xs) (hG : ghB < base) (hW : base ≤ w.heap.size) : Tr w e s v n xs := by
  have hz : ∀ {m cap : Nat}, m ≤ maxLen → m ≤ 9223372036854775807 := fun h => by unfold maxLen at h; omega
  rcases h.2 with ⟨rfl, rfl⟩ | ⟨g, cap, cur, rfl, hb, hh, hn, hm, hs, ht⟩
  · exact ⟨none, 0, rfl, Nat.le_refl _, by omega, fun _ => ⟨rfl, rfl⟩, Reads.of_own h, (fun _ h => by cases h), Nat.lt_of_lt_of_le hG hW, (fun _ h => by cases h)⟩
  · exact ⟨_, cap, rfl, hn, hz (m := cap) (cap := cap) hm, fun h => (by cases h), Reads.of_own h, (fun ad ha => by injection ha with ha; subst ha; exact ⟨_, _, hh⟩), Nat.lt_of_lt_of_le hG hW, fun ad ha => by injection ha with ha; subst ha; exact fun h9 => by have h9' : g = ghB := h9; omega⟩
theorem Tr.nil [Inhabited GhT] (w : World) (e : TypeId) (s : Nat) (hG : ghB < w.heap.size) : Tr w e s (.slice none 0 0) 0 [] := Tr.of_own (World.ownsRow_nil w w.heap.size e s) hG (Nat.le_refl _)
theorem Tr.val [Inhabited GhT] (h : Tr w e s v n xs) : ∃ A c, v = .slice A n c := by obtain ⟨A, c, h, _⟩ := h; exact ⟨A, c, h⟩
theorem Tr.reads [Inhabited GhT] {A : Option Addr} {c : Nat} (h : Tr w e s (.slice A n c) n xs) : Reads w w.heap.size s A n xs := by
  obtain ⟨A', c', he, _, _, _, hr, _⟩ := h
  injection he with he _ _
  subst he
  exact hr
theorem Tr.cap [Inhabited GhT] {A : Option Addr} {c : Nat} (h : Tr w e s (.slice A n c) n xs) : n ≤ c ∧ c ≤ 9223372036854775807 ∧ (A = none → n = 0 ∧ c = 0) := by
  obtain ⟨A', c', he, h1, h2, h3, _⟩ := h
  injection he with he _ hc
  subst he
  subst hc
  exact ⟨h1, h2, h3⟩
theorem Tr.len [Inhabited GhT] (h : Tr w e s v n xs) : xs.length = n * s := by obtain ⟨_, _, _, _, _, _, hr, _⟩ := h; exact hr.1
/-- The slice behind the first k elements. -/
theorem Tr.cut [Inhabited GhT] {A : Option Addr} {c k : Nat} (h : Tr w e s (.slice A n c) n xs) (hk : k ≤ n) : Tr w e s (.slice (if c = k then A else A.map (·.add (k * s))) (n - k) (c - k)) (n - k) (xs.drop (k * s)) := by
  obtain ⟨A', c', he, h1, h2, h3, hr, h6, h7, h8⟩ := h
  injection he with he _ hc
  subst he
  subst hc
  refine ⟨_, _, rfl, by omega, by omega, fun hA => ?_, hr.cut hk h1, fun ad hA => ?_, h7, fun ad hA => ?_⟩
  · have : A = none := by
      split at hA
      · exact hA
      · simpa using hA
    have := h3 this
    omega
  · rcases A with _ | a
    · split at hA <;> cases hA
    · obtain ⟨cs, cur, hh⟩ := h6 a rfl
      refine ⟨cs, cur, ?_⟩
      split at hA
      · injection hA with hA; subst hA; exact hh
      · injection hA with hA; subst hA; rw [block_of_add]; exact hh
  · rcases A with _ | a
    · split at hA <;> cases hA
    · split at hA
      · injection hA with hA; subst hA; exact h8 _ rfl
      · injection hA with hA; subst hA; rw [block_of_add]; exact h8 _ rfl
/-- The first k elements. -/
theorem Tr.pre [Inhabited GhT] {A : Option Addr} {c k : Nat} (h : Tr w e s (.slice A n c) n xs) (hk : k ≤ n) : Tr w e s (.slice A k c) k (xs.take (k * s)) := by
  obtain ⟨A', c', he, h1, h2, h3, hr, h6, h7, h8⟩ := h
  injection he with he _ hc
  subst he
  subst hc
  have hks : k * s ≤ n * s := Nat.mul_le_mul_right _ hk
  refine ⟨A, c, rfl, by omega, by omega, fun h => by have := h3 h; omega, ⟨by rw [List.length_take, hr.1]; omega, fun h0 => ?_⟩, h6, h7, h8⟩
  obtain ⟨ad, e1, hb, hc⟩ := hr.2 (by omega)
  refine ⟨ad, e1, hb, fun j u hu => hc j u ?_⟩
  rw [List.getElem?_take] at hu
  split at hu
  · exact hu
  · cases hu
/-- All elements, with whatever capacity. -/
theorem Tr.clip [Inhabited GhT] {A : Option Addr} {c c2 : Nat} (h : Tr w e s (.slice A n c) n xs) (h1 : n ≤ c2) (h2 : c2 ≤ c) : Tr w e s (.slice A n c2) n xs := by
  obtain ⟨A', c', he, q1, q2, h3, hr, h6, h7, h8⟩ := h
  injection he with he _ hc
  subst he
  subst hc
  exact ⟨A, c2, rfl, h1, by omega, fun h => by have := h3 h; omega, hr, h6, h7, h8⟩
theorem Tr.of_eq [Inhabited GhT] {xs' : List Value} (h : Tr w e s v n xs) (hx : xs = xs') : Tr w e s v n xs' := hx ▸ h
end
theorem Tr.sl [Inhabited GhT] {w : World} {e : TypeId} {v : Value} {n : Nat} {l : List Int} (h : Tr w e 1 v n (ints .u64 l)) : Sl w w.heap.size v l := by
  have hn : l.length = n := by have := h.len; rw [ints_len] at this; omega
  subst hn
  obtain ⟨A, c, h1, h2, h3, _, hr, _⟩ := h
  exact ⟨A, c, h1, h2, h3, hr⟩
end Go.Proofs.YtokcbipmocpllaaDoor

/-
  slices.IndexFunc, whatever function is asked.
-/
namespace Go.Proofs.YtokcbipmocpllaaDoor
open Go.RowKit

/-- The place of the first to which a question says yes; -1: there is none. -/
def idxI {α : Type} (p : α → Bool) : List α → Int
  | [] => -1
  | x :: l => if p x then 0 else if idxI p l < 0 then -1 else idxI p l + 1
theorem idxI_none {α : Type} (p : α → Bool) (l : List α) (h : ∀ x ∈ l, p x = false) : idxI p l = -1 := by
  induction l with
  | nil => rfl
  | cons x l ih =>
    unfold idxI
    rw [ih (fun y hy => h y (List.mem_cons_of_mem _ hy)), h x (List.mem_cons_self ..)]
    simp
theorem idxI_at {α : Type} (p : α → Bool) (l : List α) (k : Nat) (hk : k < l.length) (h : ∀ x ∈ l.take k, p x = false) (hp : p l[k] = true) : idxI p l = k := by
  induction l generalizing k with
  | nil => simp at hk
  | cons x l ih =>
    unfold idxI
    cases k with
    | zero => rw [if_pos (by simpa using hp)]; rfl
    | succ k =>
      have h1 := ih k (by simpa using hk) (fun y hy => h y (by rw [List.take_succ_cons]; exact List.mem_cons_of_mem _ hy)) (by simpa using hp)
      rw [h1, h x (by rw [List.take_succ_cons]; exact List.mem_cons_self ..), if_neg (by simp), if_neg (by omega)]
      omega
theorem none_snoc {α : Type} (p : α → Bool) (l : List α) (k : Nat) (hk : k < l.length) (h : ∀ x ∈ l.take k, p x = false) (hp : p l[k] = false) : ∀ x ∈ l.take (k + 1), p x = false := by
  intro x hx
  rw [List.take_succ_eq_append_getElem hk, List.mem_append, List.mem_singleton] at hx
  rcases hx with hx | rfl
  · exact h x hx
  · exact hp
/-- A list without the first to which a question says yes. -/
theorem idxI_cut {α : Type} (p : α → Bool) (l : List α) : (idxI p l = -1 ∧ l.eraseP p = l) ∨ ∃ k : Nat, idxI p l = k ∧ k < l.length ∧ l.eraseP p = l.take k ++ l.drop (k + 1) := by
  induction l with
  | nil => exact .inl ⟨rfl, rfl⟩
  | cons x l ih =>
    unfold idxI
    by_cases hp : p x = true
    · exact .inr ⟨0, by rw [if_pos hp]; rfl, by simp, by simp [List.eraseP_cons_of_pos hp]⟩
    · rw [if_neg hp, List.eraseP_cons_of_neg hp]
      rcases ih with ⟨h1, h2⟩ | ⟨k, h1, h2, h3⟩
      · exact .inl ⟨by rw [h1]; simp, by rw [h2]⟩
      · exact .inr ⟨k + 1, by rw [h1, if_neg (by omega)]; omega, by simpa using h2, by rw [h3]; simp⟩
def IdxU (n : Nat) (l : List Int) (p : Int → Bool) (w : World) (i : Value) (wr : World) : Prop :=
  ∃ k : Nat, i = .int .i64 k ∧ k ≤ n ∧ Below w.heap.size w wr ∧ ∀ x ∈ l.take k, p x = false
set_option maxHeartbeats 1000000 in
theorem idxU_any (A : Option Addr) (n c : Nat) (l : List Int) (fid : FuncId) (bd caps : Array Value) (p : Int → Bool) (w : World) (hl : l.length = n) (hn : n ≤ 1000) (hr : Reads w w.heap.size 1 A n (ints .u64 l))
    (hcf : ∀ args w', (callFunc fid args).run Tryd.prog w' = .ok (.enter fid args) w')
    (hyes : ∀ x ∈ l, ∀ w', Below w.heap.size w w' → Calls Tryd.prog fid (bd ++ #[.int .u64 x] ++ caps) w' fun e w'' => e = .returned (.bool (p x)) ∧ Below w'.heap.size w' w'') :
    Calls Tryd.prog 93 #[.slice A n c, .func (.func fid) bd caps] w fun e w' => e = .returned (.int .i64 (idxI p l)) ∧ Below w.heap.size w w' := by
  have Hl := hide hl
  have Hy := hide hyes
  clear hl hyes
  go_enter Tryd.func93, Tryd.ntmps93
  go_wp2_with fail
  go_loopw [8] (IdxU n l p w) (fun i _ => n - (intOf i).toNat)
  case atStart => exact ⟨0, rfl, by omega, Below.refl _ _, by simp⟩
  case round =>
    obtain ⟨k, rfl, hk, hb, hno⟩ := hrel
    have Hno := hide hno
    clear hno
    by_cases hlt : k < n
    · obtain ⟨a, rfl, hkl, z1⟩ := (hr.below hb).word hlt
      have Hy1 := hide (Hy.out l[k] (List.getElem_mem hkl))
      have Hst := hide (fun hp => idxI_at p l k hkl Hno.out hp)
      have Hsn := hide (fun hp => none_snoc p l k hkl Hno.out hp)
      generalize l[k] = x at *
      by_cases hp : p x = true
      · have Hp := hide hp
        have Hst := hide (Hst.out hp)
        clear hp Hsn
        go_wp2_with fail
        refine (Hy1.out _ hb).mono ?_
        rintro e w2 ⟨rfl, hb2⟩
        rw [Hp.out]
        replace hb := hb.trans (hb2.mono hb.size)
        clear hb2
        go_wp2_with fail
        go_ret
        exact ⟨by rw [Hst.out]; rfl, hb⟩
      · replace hp : p x = false := by simpa using hp
        have Hp := hide hp
        have Hsn := hide (Hsn.out hp)
        clear hp Hst
        go_wp2_with fail
        refine (Hy1.out _ hb).mono ?_
        rintro e w2 ⟨rfl, hb2⟩
        rw [Hp.out]
        replace hb := hb.trans (hb2.mono hb.size)
        clear hb2
        go_wp2_with fail
        go_roundw
        case measure => simp [intOf]; omega
        case rel => exact ⟨k + 1, by go_num, by omega, hb, Hsn.out⟩
    · have hkn : k = n := by omega
      have HI := hide (idxI_none p l (by have := Hno.out; rwa [List.take_of_length_le (by rw [Hl.out]; omega)] at this))
      subst hkn
      clear hlt
      have hlt2 : ¬ (k : Int) < (k : Int) := by omega
      go_wp2_with fail
      go_ret
      exact ⟨by rw [HI.out]; rfl, hb⟩
def IdxR (n : Nat) (l : List (Int × Int)) (p : (Int × Int) → Bool) (w : World) (i : Value) (wr : World) : Prop :=
  ∃ k : Nat, i = .int .i64 k ∧ k ≤ n ∧ Below w.heap.size w wr ∧ ∀ x ∈ l.take k, p x = false
set_option maxHeartbeats 1000000 in
theorem idxR_any (A : Option Addr) (n c : Nat) (l : List (Int × Int)) (fid : FuncId) (bd caps : Array Value) (p : (Int × Int) → Bool) (w : World) (hl : l.length = n) (hn : n ≤ 1000) (hr : Reads w w.heap.size 2 A n (rec2 l))
    (hcf : ∀ args w', (callFunc fid args).run Tryd.prog w' = .ok (.enter fid args) w')
    (hyes : ∀ x ∈ l, ∀ w', Below w.heap.size w w' → Calls Tryd.prog fid (bd ++ #[.agg #[.int .u64 x.1, .int .u64 x.2]] ++ caps) w' fun e w'' => e = .returned (.bool (p x)) ∧ Below w'.heap.size w' w'') :
    Calls Tryd.prog 63 #[.slice A n c, .func (.func fid) bd caps] w fun e w' => e = .returned (.int .i64 (idxI p l)) ∧ Below w.heap.size w w' := by
  have Hl := hide hl
  have Hy := hide hyes
  clear hl hyes
  go_enter Tryd.func63, Tryd.ntmps63
  go_wp2_with fail
  go_loopw [8] (IdxR n l p w) (fun i _ => n - (intOf i).toNat)
  case atStart => exact ⟨0, rfl, by omega, Below.refl _ _, by simp⟩
  case round =>
    obtain ⟨k, rfl, hk, hb, hno⟩ := hrel
    have Hno := hide hno
    clear hno
    by_cases hlt : k < n
    · obtain ⟨a, rfl, hkl, z1, z2⟩ := (hr.below hb).pair hlt
      have Hy1 := hide (Hy.out l[k] (List.getElem_mem hkl))
      have Hst := hide (fun hp => idxI_at p l k hkl Hno.out hp)
      have Hsn := hide (fun hp => none_snoc p l k hkl Hno.out hp)
      generalize l[k] = x at *
      by_cases hp : p x = true
      · have Hp := hide hp
        have Hst := hide (Hst.out hp)
        clear hp Hsn
        go_wp2_with fail
        refine (Hy1.out _ hb).mono ?_
        rintro e w2 ⟨rfl, hb2⟩
        rw [Hp.out]
        replace hb := hb.trans (hb2.mono hb.size)
        clear hb2
        go_wp2_with fail
        go_ret
        exact ⟨by rw [Hst.out]; rfl, hb⟩
      · replace hp : p x = false := by simpa using hp
        have Hp := hide hp
        have Hsn := hide (Hsn.out hp)
        clear hp Hst
        go_wp2_with fail
        refine (Hy1.out _ hb).mono ?_
        rintro e w2 ⟨rfl, hb2⟩
        rw [Hp.out]
        replace hb := hb.trans (hb2.mono hb.size)
        clear hb2
        go_wp2_with fail
        go_roundw
        case measure => simp [intOf]; omega
        case rel => exact ⟨k + 1, by go_num, by omega, hb, Hsn.out⟩
    · have hkn : k = n := by omega
      have HI := hide (idxI_none p l (by have := Hno.out; rwa [List.take_of_length_le (by rw [Hl.out]; omega)] at this))
      subst hkn
      clear hlt
      have hlt2 : ¬ (k : Int) < (k : Int) := by omega
      go_wp2_with fail
      go_ret
      exact ⟨by rw [HI.out]; rfl, hb⟩
end Go.Proofs.YtokcbipmocpllaaDoor

/-
  slices.Concat of records.
-/
namespace Go.Proofs.YtokcbipmocpllaaDoor
open Go.RowKit

theorem rec2_flat (l : List (Int × Int)) : (rec2 l).length = l.length * 2 := by unfold rec2; induction l <;> simp_all [List.flatMap_cons]; try omega
set_option maxRecDepth 100000 in
set_option maxHeartbeats 400000 in
theorem growr_any (n : Nat) (w : World) (hn : n ≤ 1000000) :
    Calls Tryd.prog 99 #[.slice none 0 0, .int .i64 n] w fun e w' => (∃ v, e = .returned v ∧ w'.ownsRow w.heap.size 31 2 v 0 []) ∧ Below w.heap.size w w' := by
  obtain ⟨i0, hi0, hz0, hs0, hb0⟩ := info_parts infoRecs
  by_cases h0 : n = 0
  · subst h0
    go_enter Tryd.func99, Tryd.ntmps99
    go_wp2_with fail
    go_ret
    exact ⟨⟨_, rfl, World.ownsRow_nil _ _ _ _⟩, Below.refl _ _⟩
  · have hpos : 0 < n := by omega
    have hge : n ≤ grownCap w n 0 31 := grownCap_ge w _ _ _
    have hG : grownCap w n 0 31 ≤ maxLen := grownCap_le_maxLen w n 0 _ (by unfold maxLen; omega)
    have hrz := fun ty => Lib.run_append_nil_zeros (P := Tryd.prog) w 22 3 ty 31 i0 (.agg #[.int .u64 0, .int .u64 0]) .i64 .i64 Tryd.underlying22 Tryd.underlying3 hi0 hz0 n hpos (by omega) (by omega) (by rw [hb0]; omega)
    generalize grownCap w n 0 31 = G at *
    have hown : (w.drew.alloc (.cells (Builtin.zeroCells (Value.agg #[.int .u64 0, .int .u64 0]).cells n ++ Builtin.zeroCells (Value.agg #[.int .u64 0, .int .u64 0]).cells (G - n)) 31)).ownsRow w.heap.size 31 2 (.slice (some ⟨w.heap.size, 0, none⟩) 0 G) 0 [] :=
      World.ownsRow_made w.drew _ G (Nat.le_refl _) hG (by simp only [Array.size_append, size_zeroCells]; have : (Value.agg #[.int .u64 0, .int .u64 0]).cells.size = 2 := rfl; rw [this]; omega)
    have hbel : Below w.heap.size w (w.drew.alloc (.cells (Builtin.zeroCells (Value.agg #[.int .u64 0, .int .u64 0]).cells n ++ Builtin.zeroCells (Value.agg #[.int .u64 0, .int .u64 0]).cells (G - n)) 31)) := (Below.refl _ _).drew.alloc (Nat.le_refl _) _
    generalize w.drew.alloc (.cells (Builtin.zeroCells (Value.agg #[.int .u64 0, .int .u64 0]).cells n ++ Builtin.zeroCells (Value.agg #[.int .u64 0, .int .u64 0]).cells (G - n)) 31) = w2 at *
    have hG63 : G ≤ 9223372036854775807 := by unfold maxLen at hG; omega
    go_enter Tryd.func99, Tryd.ntmps99
    go_wp2_with (at_builtin; refine Lib.wpList_append_run _ rfl _ _ _ _ rfl _ _ rfl rfl _ _ (hrz _) ?_)
    go_ret
    exact ⟨⟨_, rfl, hown⟩, hbel⟩

def catR (ps : List (Value × List (Int × Int))) (k : Nat) : List (Int × Int) := (ps.take k).flatMap (·.2)
theorem catR_succ (ps : List (Value × List (Int × Int))) (k : Nat) (h : k < ps.length) : catR ps (k + 1) = catR ps k ++ ps[k].2 := by
  unfold catR
  rw [List.take_succ_eq_append_getElem h, List.flatMap_append]
  simp
theorem catR_len (ps : List (Value × List (Int × Int))) (k : Nat) : (catR ps k).length ≤ (ps.flatMap (·.2)).length := by
  have h : ps.flatMap (·.2) = catR ps k ++ (ps.drop k).flatMap (·.2) := by
    unfold catR
    rw [← List.flatMap_append, List.take_append_drop]
  rw [h, List.length_append]
  omega
theorem catR_all (ps : List (Value × List (Int × Int))) (k : Nat) (h : ps.length ≤ k) : catR ps k = ps.flatMap (·.2) := by
  unfold catR
  rw [List.take_of_length_le h]

def CatAR (ps : List (Value × List (Int × Int))) (w : World) (v3 i : Value) (wr : World) : Prop :=
  ∃ (k m : Nat), i = .int .i64 k ∧ k ≤ ps.length ∧ v3 = .int .i64 m ∧ m = (catR ps k).length ∧ Below w.heap.size w wr
def CatBR (ps : List (Value × List (Int × Int))) (w : World) (v6 i : Value) (wr : World) : Prop :=
  ∃ (k n1 : Nat), i = .int .i64 k ∧ k ≤ ps.length ∧ wr.ownsRow w.heap.size 31 2 v6 n1 (rec2 (catR ps k)) ∧ n1 = (catR ps k).length ∧ Below w.heap.size w wr

set_option maxRecDepth 100000 in
set_option maxHeartbeats 1000000 in
theorem concatr_any [Inhabited GhT] (ps : List (Value × List (Int × Int))) (A : Option Addr) (n c : Nat) (w : World) (hn : ps.length = n) (hn9 : n ≤ 9) (hr : Reads w w.heap.size 1 A n (ps.map (·.1)))
    (hp : ∀ p ∈ ps, Tr w 31 2 p.1 p.2.length (rec2 p.2)) (hl : (ps.flatMap (·.2)).length ≤ 1000000) :
    Calls Tryd.prog 92 #[.slice A n c] w fun e w' => (∃ u, e = .returned u ∧ w'.ownsRow w.heap.size 31 2 u (ps.flatMap (·.2)).length (rec2 (ps.flatMap (·.2)))) ∧ Below w.heap.size w w' := by
  obtain ⟨i0, hi0, hz0, hs0, hb0⟩ := info_parts infoRecs
  go_enter Tryd.func92, Tryd.ntmps92
  go_wp2_with fail
  go_loopw [3, 11] (CatAR ps w) (fun _ i _ => 100 - (intOf i).toNat)
  case atStart => exact ⟨0, 0, rfl, by omega, rfl, rfl, Below.refl _ _⟩
  case round =>
    obtain ⟨k, m, rfl, hk, rfl, hm, hb⟩ := hrel
    by_cases hlt : k < n
    · obtain ⟨ad, u, rfl, hab, hu, hc⟩ := (hr.below hb).at_ hlt
      have hkl : k < ps.length := by omega
      have hu2 : (ps.map (·.1))[k]? = some ps[k].1 := by simp [hkl]
      rw [hu2] at hu
      injection hu with hu
      subst hu
      obtain ⟨A1, c1, e1, h1, h2, h4, h3, _⟩ := hp ps[k] (List.getElem_mem hkl)
      rw [e1] at hc
      have hs := catR_succ ps k hkl
      have hm1 := catR_len ps (k + 1)
      have hm2 : (catR ps (k + 1)).length = m + ps[k].2.length := by rw [hs, List.length_append, hm]
      clear hs e1
      generalize ps[k].2 = xs at *
      have x1 : xs.length ≤ 1000000 := by omega
      have x2 : m ≤ 1000000 := by omega
      have Hm2 := hide hm2
      clear hm2 hm hm1
      generalize xs.length = q at *
      go_wp2_with fail
      go_roundw
      case measure => simp [intOf]; omega
      case rel => exact ⟨k + 1, m + q, by go_num, by omega, by go_num, Hm2.out.symm, hb⟩
    · have hall := catR_all ps k (by omega)
      rw [hall] at hm
      have Hm := hide hm
      have Gr := hide (growr_any m wr (by omega))
      clear hm
      go_wp2_with fail
      refine Gr.out.mono ?_
      rintro e w2 ⟨⟨v, rfl, hown⟩, hb2⟩
      have hb3 := hb.trans (hb2.mono hb.size)
      have hown := own_mono hown hb.size
      go_wp2_with fail
      go_loopw [6, 27] (CatBR ps w) (fun _ i _ => 100 - (intOf i).toNat)
      case atStart => exact ⟨0, 0, rfl, by omega, hown, rfl, hb3⟩
      case round =>
        clear hown hb3 hb2
        clear hlt hall Hm Gr hk
        obtain ⟨j, n1, rfl, hk, hown, hn1, hbj⟩ := hrel
        by_cases hlt : j < n
        · obtain ⟨ad, u, rfl, hab, hu, hc⟩ := (hr.below hbj).at_ hlt
          have hkl : j < ps.length := by omega
          have hu2 : (ps.map (·.1))[j]? = some ps[j].1 := by simp [hkl]
          rw [hu2] at hu
          injection hu with hu
          subst hu
          obtain ⟨A1, c1, e1, h1, h2, h4, h3, _⟩ := hp ps[j] (List.getElem_mem hkl)
          have h3 := h3.below hbj
          rw [e1] at hc
          have hs := catR_succ ps j hkl
          have hm1 := catR_len ps (j + 1)
          have hm2 : (catR ps (j + 1)).length = n1 + ps[j].2.length := by rw [hs, List.length_append, hn1]
          clear e1 hu2
          generalize ps[j].2 = xs at *
          have Hs := hide hs
          have x1 : n1 + xs.length ≤ 1000000 := by omega
          have Hm2 := hide hm2
          have hsz := hbj.size
          clear hm2 hm1 hn1 hs
          go_wp2_with (at_builtin; refine wpList_append_any _ rfl (.tmp 31) (.tmp 32) _ rfl w.heap.size 31 i0 _ 2 16 Tryd.underlying22 hi0 hz0 hs0 hb0 rfl (by omega) u6 n1 _ rfl hown w.heap.size A1 xs.length c1 (rec2 xs) rfl h3 (rec2_one _) (by unfold maxLen; omega) (by omega) hsz ?_; intro v3 w3 hown3 hg3 hat3)
          have hb4 := below_appended hbj hown hg3 (Nat.le_refl _) hsz
          go_roundw
          case measure => simp [intOf]; omega
          case rel => exact ⟨j + 1, n1 + xs.length, by go_num, by omega, by rw [Hs.out, rec2_append]; exact hown3, Hm2.out.symm, hb4⟩
        · have hall := catR_all ps j (by omega)
          rw [hall] at hown hn1
          go_wp2_with fail
          go_ret
          subst hn1
          exact ⟨⟨u6, rfl, hown⟩, hbj⟩

end Go.Proofs.YtokcbipmocpllaaDoor

/-
  sweep.without: a list without the first thing to which a question says yes.
-/
namespace Go.Proofs.YtokcbipmocpllaaDoor
open Go.RowKit

theorem cells_takeU (l : List Int) (k : Nat) : (ints .u64 l).take (k * 1) = ints .u64 (l.take k) := by unfold ints; rw [Nat.mul_one, List.map_take]
theorem cells_dropU (l : List Int) (k : Nat) : (ints .u64 l).drop (k * 1) = ints .u64 (l.drop k) := by unfold ints; rw [Nat.mul_one, List.map_drop]
theorem cells_takeR (l : List (Int × Int)) (k : Nat) : (rec2 l).take (k * 2) = rec2 (l.take k) := by
  induction l generalizing k with
  | nil => simp [rec2]
  | cons x l ih =>
    cases k with
    | zero => simp [rec2]
    | succ k =>
      have h := ih k
      unfold rec2 at h ⊢
      rw [show (k + 1) * 2 = k * 2 + 1 + 1 by omega]
      simp [List.flatMap_cons, h]
theorem cells_dropR (l : List (Int × Int)) (k : Nat) : (rec2 l).drop (k * 2) = rec2 (l.drop k) := by
  induction l generalizing k with
  | nil => simp [rec2]
  | cons x l ih =>
    cases k with
    | zero => simp [rec2]
    | succ k =>
      have h := ih k
      unfold rec2 at h ⊢
      rw [show (k + 1) * 2 = k * 2 + 1 + 1 by omega]
      simp [List.flatMap_cons, h]

theorem catU_two [Inhabited GhT] (v1 v2 : Value) (x1 x2 : List Int) (n1 n2 : Nat) (w : World) (g : Nat) (hb : Blk w g 23 #[v1, v2]) (h1 : Tr w 29 1 v1 n1 (ints .u64 x1)) (h2 : Tr w 29 1 v2 n2 (ints .u64 x2)) (hn : (x1 ++ x2).length ≤ 1000000) :
    Calls Tryd.prog 30 #[.slice (some ⟨g, 0, none⟩) 2 2] w fun e w' => (∃ u, e = .returned u ∧ w'.ownsRow w.heap.size 29 1 u (x1 ++ x2).length (ints .u64 (x1 ++ x2))) ∧ Below w.heap.size w w' := by
  have e1 : x1.length = n1 := by have := h1.len; rw [ints_len] at this; omega
  have e2 : x2.length = n2 := by have := h2.len; rw [ints_len] at this; omega
  subst e1 e2
  have h := concat_any [(v1, x1), (v2, x2)] (some ⟨g, 0, none⟩) 2 2 w rfl (by omega) ((Reads.blk hb 2 1 rfl).more hb.lt) (fun p hp => by
    simp only [List.mem_cons, List.not_mem_nil, or_false] at hp
    rcases hp with rfl | rfl
    · exact h1.sl
    · exact h2.sl) (by simpa using hn)
  have e : [(v1, x1), (v2, x2)].flatMap (·.2) = x1 ++ x2 := by simp
  rw [e] at h
  exact h
set_option maxRecDepth 100000 in
set_option maxHeartbeats 2000000 in
theorem withoutU_any [Inhabited GhT] (v : Value) (l : List Int) (fid : FuncId) (bd caps : Array Value) (p : Int → Bool) (w : World) (hn : l.length ≤ 1000) (hr : Tr w 29 1 v l.length (ints .u64 l))
    (hcf : ∀ args w', (callFunc fid args).run Tryd.prog w' = .ok (.enter fid args) w')
    (hyes : ∀ x ∈ l, ∀ w', Below w.heap.size w w' → Calls Tryd.prog fid (bd ++ #[.int .u64 x] ++ caps) w' fun e w'' => e = .returned (.bool (p x)) ∧ Below w'.heap.size w' w'') :
    Calls Tryd.prog 71 #[v, .func (.func fid) bd caps] w fun e w' => (∃ u, e = .returned u ∧ Tr w' 29 1 u (l.eraseP p).length (ints .u64 (l.eraseP p))) ∧ Below w.heap.size w w' := by
  obtain ⟨A, c, rfl⟩ := hr.val
  have hcap := hr.cap
  have IX := hide (idxU_any A l.length c l fid bd caps p w rfl hn hr.reads hcf hyes)
  have HR := hide hr
  have HN := hide hn
  clear hyes hcf
  rcases idxI_cut p l with ⟨h1, h2⟩ | ⟨k, h1, h2, h3⟩
  · rw [h1] at IX
    rw [h2]
    clear h1 h2
    go_enter Tryd.func71, Tryd.ntmps71
    go_wp2_with fail
    refine IX.out.mono ?_
    rintro e w1 ⟨rfl, hb⟩
    go_wp2_with fail
    go_ret
    exact ⟨⟨_, rfl, HR.out.below (Nat.le_refl _) hb⟩, hb⟩
  · rw [h1] at IX
    rw [h3]
    clear h1 h3
    have hk1 : (0 : Int) ≤ (k : Int) := by omega
    have hk2 : (k : Int) ≤ (c : Int) := by have := hcap.1; omega
    obtain ⟨m, hm⟩ : ∃ m : Nat, m = k + 1 := ⟨_, rfl⟩
    have hkw : IntKind.i64.wrap ((k : Int) + 1) = (m : Int) := by rw [IntWalk.i64_in _ (by omega)]; omega
    have hk3 : (m : Int) ≤ (l.length : Int) := by omega
    have hk5 : m ≤ l.length := by omega
    have hk6 : (0 : Int) ≤ (m : Int) := by omega
    have HM := hide hm
    have CC := hide (fun w2 v1 v2 g n1 n2 (hb : Blk w2 g 23 #[v1, v2]) h1 h2 => catU_two v1 v2 (l.take k) (l.drop m) n1 n2 w2 g hb h1 h2 (by rw [List.length_append, List.length_take, List.length_drop]; omega))
    have HX := hide (show l.take k ++ l.drop (k + 1) = l.take k ++ l.drop m by rw [hm])
    have hkn : ¬ (k : Int) < 0 := by omega
    have hk4 : (k : Int) ≤ 1000 := by omega
    have hln : (l.length : Int) ≤ (c : Int) := by have := hcap.1; omega
    have hlc : (c : Int) ≤ 9223372036854775807 := by have := hcap.2.1; omega
    have h2N := hide h2
    clear hm
    go_enter Tryd.func71, Tryd.ntmps71
    go_wp2_with fail
    refine IX.out.mono ?_
    rintro e w1 ⟨rfl, hb⟩
    replace hr := HR.out.below (Nat.le_refl _) hb
    go_wp2_with fail
    refine wp_region_heldZ [] (fun w' => True) (by kernel_rfl) (by trivial) (fun hHeld => ?_)
    refine' wpAnyZ_takeA (i := 0) (v := ?_) (opAt rfl) (by kernel_rfl) (by kernel_rfl) (by kernel_rfl) (by kernel_rfl) (fun _ _ _ h => h) (by assumption) (by rfl) (fun w hSw => ?_) ?_
    rotate_left
    · (try dsimp only at hSw); go_simp; (try with_reducible rfl)
    try simp only [Act.put, List.setIfInBounds_toArray, List.set_cons_zero, List.set_cons_succ]
    refine' wpAnyZ_takeA (i := 1) (v := ?_) (opAt rfl) (by kernel_rfl) (by kernel_rfl) (by kernel_rfl) (by kernel_rfl) (fun _ _ _ h => h) (by assumption) (by rfl) (fun w hSw => ?_) ?_
    rotate_left
    · (try dsimp only at hSw); go_simp; (try with_reducible rfl)
    try simp only [Act.put, List.setIfInBounds_toArray, List.set_cons_zero, List.set_cons_succ]
    refine' wpAnyZ_takeA (i := 2) (v := ?_) (opAt rfl) (by kernel_rfl) (by kernel_rfl) (by kernel_rfl) (by kernel_rfl) (fun _ _ _ h => h) (by assumption) (by rfl) (fun w hSw => ?_) ?_
    rotate_left
    · (try dsimp only at hSw); go_simp; (try with_reducible rfl)
    try simp only [Act.put, List.setIfInBounds_toArray, List.set_cons_zero, List.set_cons_succ]
    refine' wpAnyZ_takeA (i := 3) (v := ?_) (opAt rfl) (by kernel_rfl) (by kernel_rfl) (by kernel_rfl) (by kernel_rfl) (fun _ _ _ h => h) (by assumption) (by rfl) (fun w hSw => ?_) ?_
    rotate_left
    · (try dsimp only at hSw); go_simp; (try with_reducible rfl)
    try simp only [Act.put, List.setIfInBounds_toArray, List.set_cons_zero, List.set_cons_succ]
    refine' wpAnyZ_takeA (i := 4) (v := ?_) (opAt rfl) (by kernel_rfl) (by kernel_rfl) (by kernel_rfl) (by kernel_rfl) (fun _ _ _ h => h) (by assumption) (by rfl) (fun w hSw => ?_) ?_
    rotate_left
    · (try dsimp only at hSw); go_simp; (try with_reducible rfl)
    try simp only [Act.put, List.setIfInBounds_toArray, List.set_cons_zero, List.set_cons_succ]
    refine' wpAnyZ_takeA (i := 5) (v := ?_) (opAt rfl) (by kernel_rfl) (by kernel_rfl) (by kernel_rfl) (by kernel_rfl) (fun _ _ _ h => h) (by assumption) (by rfl) (fun w hSw => ?_) ?_
    rotate_left
    · (try dsimp only at hSw); go_simp; (try with_reducible rfl)
    try simp only [Act.put, List.setIfInBounds_toArray, List.set_cons_zero, List.set_cons_succ]
    refine' wpAnyZ_takeA (i := 6) (v := ?_) (opAt rfl) (by kernel_rfl) (by kernel_rfl) (by kernel_rfl) (by kernel_rfl) (fun _ _ _ h => h) (by assumption) (by rfl) (fun w hSw => ?_) ?_
    rotate_left
    · (try dsimp only at hSw); go_simp; (try with_reducible rfl)
    try simp only [Act.put, List.setIfInBounds_toArray, List.set_cons_zero, List.set_cons_succ]
    refine wpAnyZ_ready (rs := [7]) (by kernel_rfl) (by simp) ?_
    refine AllReadyZ.cons (opAt rfl) (fun K hK => ?_) ?_
    · skip
      go_simp
      have bl := (Blk.new w1 23 #[.slice A k c, (.slice (if c = m then A else Option.map (fun x => x.add m) A) (l.length - m) (c - m))])
      replace hr := hr.alloc (.cells #[.slice A k c, (.slice (if c = m then A else Option.map (fun x => x.add m) A) (l.length - m) (c - m))] 23)
      replace hb := hb.alloc hb.size (.cells #[.slice A k c, (.slice (if c = m then A else Option.map (fun x => x.add m) A) (l.length - m) (c - m))] 23)
      have t1 := (hr.pre (k := k) (by have := h2N.out; omega)).of_eq (cells_takeU _ _)
      have t2 := (hr.cut (k := m) hk5).of_eq (cells_dropU _ _)
      rw [Nat.mul_one] at t2
      generalize (if c = m then A else Option.map (fun x => x.add m) A) = A2 at *
      refine hK.out _ _ (by trivial) (fun hHeld => ?_)
      clear hK K
      try simp only [Act.put, List.setIfInBounds_toArray, List.set_cons_zero, List.set_cons_succ]
      refine wpAnyZ_ready (rs := [8]) (by kernel_rfl) (by simp) ?_
      refine AllReadyZ.cons (opAt rfl) (fun K hK => ?_) ?_
      · skip
        go_simp
        have HG3 := hide t1.drew.gh
        refine (CC.out _ _ _ _ _ _ (bl.drew) (t1.drew) (t2.drew)).mono ?_
        rintro e w3 ⟨⟨u3, rfl, o3⟩, hb3⟩
        replace hb := hb.drew.trans (hb3.mono hb.size)
        try go_wp2_with fail
        refine hK.out _ _ (by trivial) (fun hHeld => ?_)
        clear hK K
        try simp only [Act.put, List.setIfInBounds_toArray, List.set_cons_zero, List.set_cons_succ]
        refine' wpAnyZ_takeA (i := 9) (v := ?_) (opAt rfl) (by kernel_rfl) (by kernel_rfl) (by kernel_rfl) (by kernel_rfl) (fun _ _ _ h => h) (by assumption) (by rfl) (fun w hSw => ?_) ?_
        rotate_left
        · (try dsimp only at hSw); go_simp; (try with_reducible rfl)
        try simp only [Act.put, List.setIfInBounds_toArray, List.set_cons_zero, List.set_cons_succ]
        refine wpAnyZ_done (by kernel_rfl) ?_ _
        go_wp2_with fail
        go_ret
        exact ⟨⟨_, rfl, by rw [HX.out]; exact Tr.of_own o3 HG3.out hb3.size⟩, hb⟩
      exact AllReadyZ.nil
    exact AllReadyZ.nil
theorem catR_two [Inhabited GhT] (v1 v2 : Value) (x1 x2 : List (Int × Int)) (n1 n2 : Nat) (w : World) (g : Nat) (hb : Blk w g 22 #[v1, v2]) (h1 : Tr w 31 2 v1 n1 (rec2 x1)) (h2 : Tr w 31 2 v2 n2 (rec2 x2)) (hn : (x1 ++ x2).length ≤ 1000000) :
    Calls Tryd.prog 92 #[.slice (some ⟨g, 0, none⟩) 2 2] w fun e w' => (∃ u, e = .returned u ∧ w'.ownsRow w.heap.size 31 2 u (x1 ++ x2).length (rec2 (x1 ++ x2))) ∧ Below w.heap.size w w' := by
  have e1 : x1.length = n1 := by have := h1.len; rw [rec2_flat] at this; omega
  have e2 : x2.length = n2 := by have := h2.len; rw [rec2_flat] at this; omega
  subst e1 e2
  have h := concatr_any [(v1, x1), (v2, x2)] (some ⟨g, 0, none⟩) 2 2 w rfl (by omega) ((Reads.blk hb 2 1 rfl).more hb.lt) (fun p hp => by
    simp only [List.mem_cons, List.not_mem_nil, or_false] at hp
    rcases hp with rfl | rfl
    · exact h1
    · exact h2) (by simpa using hn)
  have e : [(v1, x1), (v2, x2)].flatMap (·.2) = x1 ++ x2 := by simp
  rw [e] at h
  exact h
set_option maxRecDepth 100000 in
set_option maxHeartbeats 2000000 in
theorem withoutR_any [Inhabited GhT] (v : Value) (l : List (Int × Int)) (fid : FuncId) (bd caps : Array Value) (p : (Int × Int) → Bool) (w : World) (hn : l.length ≤ 1000) (hr : Tr w 31 2 v l.length (rec2 l))
    (hcf : ∀ args w', (callFunc fid args).run Tryd.prog w' = .ok (.enter fid args) w')
    (hyes : ∀ x ∈ l, ∀ w', Below w.heap.size w w' → Calls Tryd.prog fid (bd ++ #[.agg #[.int .u64 x.1, .int .u64 x.2]] ++ caps) w' fun e w'' => e = .returned (.bool (p x)) ∧ Below w'.heap.size w' w'') :
    Calls Tryd.prog 68 #[v, .func (.func fid) bd caps] w fun e w' => (∃ u, e = .returned u ∧ Tr w' 31 2 u (l.eraseP p).length (rec2 (l.eraseP p))) ∧ Below w.heap.size w w' := by
  obtain ⟨A, c, rfl⟩ := hr.val
  have hcap := hr.cap
  have IX := hide (idxR_any A l.length c l fid bd caps p w rfl hn hr.reads hcf hyes)
  have HR := hide hr
  have HN := hide hn
  clear hyes hcf
  rcases idxI_cut p l with ⟨h1, h2⟩ | ⟨k, h1, h2, h3⟩
  · rw [h1] at IX
    rw [h2]
    clear h1 h2
    go_enter Tryd.func68, Tryd.ntmps68
    go_wp2_with fail
    refine IX.out.mono ?_
    rintro e w1 ⟨rfl, hb⟩
    go_wp2_with fail
    go_ret
    exact ⟨⟨_, rfl, HR.out.below (Nat.le_refl _) hb⟩, hb⟩
  · rw [h1] at IX
    rw [h3]
    clear h1 h3
    have hk1 : (0 : Int) ≤ (k : Int) := by omega
    have hk2 : (k : Int) ≤ (c : Int) := by have := hcap.1; omega
    obtain ⟨m, hm⟩ : ∃ m : Nat, m = k + 1 := ⟨_, rfl⟩
    have hkw : IntKind.i64.wrap ((k : Int) + 1) = (m : Int) := by rw [IntWalk.i64_in _ (by omega)]; omega
    have hk3 : (m : Int) ≤ (l.length : Int) := by omega
    have hk5 : m ≤ l.length := by omega
    have hk6 : (0 : Int) ≤ (m : Int) := by omega
    have HM := hide hm
    have CC := hide (fun w2 v1 v2 g n1 n2 (hb : Blk w2 g 22 #[v1, v2]) h1 h2 => catR_two v1 v2 (l.take k) (l.drop m) n1 n2 w2 g hb h1 h2 (by rw [List.length_append, List.length_take, List.length_drop]; omega))
    have HX := hide (show l.take k ++ l.drop (k + 1) = l.take k ++ l.drop m by rw [hm])
    have hkn : ¬ (k : Int) < 0 := by omega
    have hk4 : (k : Int) ≤ 1000 := by omega
    have hln : (l.length : Int) ≤ (c : Int) := by have := hcap.1; omega
    have hlc : (c : Int) ≤ 9223372036854775807 := by have := hcap.2.1; omega
    have h2N := hide h2
    clear hm
    go_enter Tryd.func68, Tryd.ntmps68
    go_wp2_with fail
    refine IX.out.mono ?_
    rintro e w1 ⟨rfl, hb⟩
    replace hr := HR.out.below (Nat.le_refl _) hb
    go_wp2_with fail
    refine wp_region_heldZ [] (fun w' => True) (by kernel_rfl) (by trivial) (fun hHeld => ?_)
    refine' wpAnyZ_takeA (i := 0) (v := ?_) (opAt rfl) (by kernel_rfl) (by kernel_rfl) (by kernel_rfl) (by kernel_rfl) (fun _ _ _ h => h) (by assumption) (by rfl) (fun w hSw => ?_) ?_
    rotate_left
    · (try dsimp only at hSw); go_simp; (try with_reducible rfl)
    try simp only [Act.put, List.setIfInBounds_toArray, List.set_cons_zero, List.set_cons_succ]
    refine' wpAnyZ_takeA (i := 1) (v := ?_) (opAt rfl) (by kernel_rfl) (by kernel_rfl) (by kernel_rfl) (by kernel_rfl) (fun _ _ _ h => h) (by assumption) (by rfl) (fun w hSw => ?_) ?_
    rotate_left
    · (try dsimp only at hSw); go_simp; (try with_reducible rfl)
    try simp only [Act.put, List.setIfInBounds_toArray, List.set_cons_zero, List.set_cons_succ]
    refine' wpAnyZ_takeA (i := 2) (v := ?_) (opAt rfl) (by kernel_rfl) (by kernel_rfl) (by kernel_rfl) (by kernel_rfl) (fun _ _ _ h => h) (by assumption) (by rfl) (fun w hSw => ?_) ?_
    rotate_left
    · (try dsimp only at hSw); go_simp; (try with_reducible rfl)
    try simp only [Act.put, List.setIfInBounds_toArray, List.set_cons_zero, List.set_cons_succ]
    refine' wpAnyZ_takeA (i := 3) (v := ?_) (opAt rfl) (by kernel_rfl) (by kernel_rfl) (by kernel_rfl) (by kernel_rfl) (fun _ _ _ h => h) (by assumption) (by rfl) (fun w hSw => ?_) ?_
    rotate_left
    · (try dsimp only at hSw); go_simp; (try with_reducible rfl)
    try simp only [Act.put, List.setIfInBounds_toArray, List.set_cons_zero, List.set_cons_succ]
    refine' wpAnyZ_takeA (i := 4) (v := ?_) (opAt rfl) (by kernel_rfl) (by kernel_rfl) (by kernel_rfl) (by kernel_rfl) (fun _ _ _ h => h) (by assumption) (by rfl) (fun w hSw => ?_) ?_
    rotate_left
    · (try dsimp only at hSw); go_simp; (try with_reducible rfl)
    try simp only [Act.put, List.setIfInBounds_toArray, List.set_cons_zero, List.set_cons_succ]
    refine' wpAnyZ_takeA (i := 5) (v := ?_) (opAt rfl) (by kernel_rfl) (by kernel_rfl) (by kernel_rfl) (by kernel_rfl) (fun _ _ _ h => h) (by assumption) (by rfl) (fun w hSw => ?_) ?_
    rotate_left
    · (try dsimp only at hSw); go_simp; (try with_reducible rfl)
    try simp only [Act.put, List.setIfInBounds_toArray, List.set_cons_zero, List.set_cons_succ]
    refine' wpAnyZ_takeA (i := 6) (v := ?_) (opAt rfl) (by kernel_rfl) (by kernel_rfl) (by kernel_rfl) (by kernel_rfl) (fun _ _ _ h => h) (by assumption) (by rfl) (fun w hSw => ?_) ?_
    rotate_left
    · (try dsimp only at hSw); go_simp; (try with_reducible rfl)
    try simp only [Act.put, List.setIfInBounds_toArray, List.set_cons_zero, List.set_cons_succ]
    refine wpAnyZ_ready (rs := [7]) (by kernel_rfl) (by simp) ?_
    refine AllReadyZ.cons (opAt rfl) (fun K hK => ?_) ?_
    · skip
      go_simp
      have bl := (Blk.new w1 22 #[.slice A k c, (.slice (if c = m then A else Option.map (fun x => x.add (m * 2)) A) (l.length - m) (c - m))])
      replace hr := hr.alloc (.cells #[.slice A k c, (.slice (if c = m then A else Option.map (fun x => x.add (m * 2)) A) (l.length - m) (c - m))] 22)
      replace hb := hb.alloc hb.size (.cells #[.slice A k c, (.slice (if c = m then A else Option.map (fun x => x.add (m * 2)) A) (l.length - m) (c - m))] 22)
      have t1 := (hr.pre (k := k) (by have := h2N.out; omega)).of_eq (cells_takeR _ _)
      have t2 := (hr.cut (k := m) hk5).of_eq (cells_dropR _ _)
      generalize (if c = m then A else Option.map (fun x => x.add (m * 2)) A) = A2 at *
      refine hK.out _ _ (by trivial) (fun hHeld => ?_)
      clear hK K
      try simp only [Act.put, List.setIfInBounds_toArray, List.set_cons_zero, List.set_cons_succ]
      refine wpAnyZ_ready (rs := [8]) (by kernel_rfl) (by simp) ?_
      refine AllReadyZ.cons (opAt rfl) (fun K hK => ?_) ?_
      · skip
        go_simp
        have HG3 := hide t1.drew.gh
        refine (CC.out _ _ _ _ _ _ (bl.drew) (t1.drew) (t2.drew)).mono ?_
        rintro e w3 ⟨⟨u3, rfl, o3⟩, hb3⟩
        replace hb := hb.drew.trans (hb3.mono hb.size)
        try go_wp2_with fail
        refine hK.out _ _ (by trivial) (fun hHeld => ?_)
        clear hK K
        try simp only [Act.put, List.setIfInBounds_toArray, List.set_cons_zero, List.set_cons_succ]
        refine' wpAnyZ_takeA (i := 9) (v := ?_) (opAt rfl) (by kernel_rfl) (by kernel_rfl) (by kernel_rfl) (by kernel_rfl) (fun _ _ _ h => h) (by assumption) (by rfl) (fun w hSw => ?_) ?_
        rotate_left
        · (try dsimp only at hSw); go_simp; (try with_reducible rfl)
        try simp only [Act.put, List.setIfInBounds_toArray, List.set_cons_zero, List.set_cons_succ]
        refine wpAnyZ_done (by kernel_rfl) ?_ _
        go_wp2_with fail
        go_ret
        exact ⟨⟨_, rfl, by rw [HX.out]; exact Tr.of_own o3 HG3.out hb3.size⟩, hb⟩
      exact AllReadyZ.nil
    exact AllReadyZ.nil
end Go.Proofs.YtokcbipmocpllaaDoor

/-
  Package sweep: its questions: is a record ripe, is it the one that goes.
-/
namespace Go.Proofs.YtokcbipmocpllaaDoor
open Go.RowKit

/-- A load of many cells under a guard that says yes. -/
theorem wpList_load_midG {P : Program} {ops : Array Oper} {rest : List Oper} {op : Oper} {a : Act} {w : World} {Q : Exit → Act → World → Prop} (hw : Region.wanted op (yielded ops a.tmps) = true) (ty : TypeId) (x : Operand) (ho : op.op = .load ty x)
    (b o : Nat) (hx : a.eval x = .pointer (some ⟨b, o, none⟩)) (cs : List Value) (d : TypeDesc) (hc : w.rangeAt b o cs)
    (hu : P.underlying ty = some d) (hd : d.isRow = true) (hi : (P.info? ty).map (·.size) = some cs.length)
    (h : wpList P ops Q rest (a.put op.dst (.agg cs.toArray)) w) : wpList P ops Q (op :: rest) a w :=
  wpList_step fun K hK => by
    simp only [hw, if_true]
    exact wp_load_mid ty x ho b o hx cs d hc hu hd hi (hK _ _ h)

set_option maxRecDepth 100000 in
set_option maxHeartbeats 4000000 in
theorem sripe_any (v0 v1 v2 v3 v4 v5 v6 v7 v9 v10 v11 v12 v13 v14 v15 v16 v17 v18 v19 v20 v21 : Value) (ep h e : Int) (w : World) (he : W64 e) (hp : W64 ep) :
    Calls Tryd.prog 44 #[.agg #[v0, v1, v2, v3, v4, v5, v6, v7, .int .u64 ep, v9, v10, v11, v12, v13, v14, v15, v16, v17, v18, v19, v20, v21], .agg #[.int .u64 h, .int .u64 e]] w fun r w' => r = .returned (.bool (ripeB e ep)) ∧ Below w.heap.size w w' := by
  have RP := hide (fun w2 => Ripe_any h e ep w2 he hp)
  have B0 := ((Below.refl w.heap.size w).alloc (Nat.le_refl _) (.cells #[v0, v1, v2, v3, v4, v5, v6, v7, .int .u64 ep, v9, v10, v11, v12, v13, v14, v15, v16, v17, v18, v19, v20, v21] 51)).alloc (by simp only [World.size_alloc]; omega) (.cells #[.int .u64 h, .int .u64 e] 31)
  go_enter Tryd.func44, Tryd.ntmps44
  go_wp2_with fail
  refine (RP.out _).mono ?_
  rintro r w1 ⟨rfl, hb⟩
  go_wp2_with fail
  go_ret
  exact ⟨rfl, B0.trans (hb.mono B0.size)⟩
set_option maxRecDepth 100000 in
set_option maxHeartbeats 4000000 in
theorem gone1_any (x h : Int) (kp : Value) (w : World) (g : Nat) (hb : Blk w g 82 #[.int .u64 h, kp]) :
    Calls Tryd.prog 72 #[.int .u64 x, .pointer (some ⟨g, 0, none⟩)] w fun r w' => r = .returned (.bool (x == h)) ∧ Below w.heap.size w w' := by
  have mx := fun i => hb.cell i
  go_enter Tryd.func72, Tryd.ntmps72
  go_wp2_with fail
  go_ret
  exact ⟨rfl, Below.refl _ _⟩
set_option maxRecDepth 100000 in
set_option maxHeartbeats 4000000 in
theorem gone2_any (v0 v1 v2 v3 v4 v5 v6 v7 v9 v10 v11 v12 v13 v14 v15 v16 v17 v18 v19 v20 v21 : Value) (ep h e h0 : Int) (kp : Value) (w : World) (gx gs : Nat) (he : W64 e) (hp : W64 ep) (hx : Blk w gx 82 #[.int .u64 h0, kp]) (hs : Blk w gs 51 #[v0, v1, v2, v3, v4, v5, v6, v7, .int .u64 ep, v9, v10, v11, v12, v13, v14, v15, v16, v17, v18, v19, v20, v21]) :
    Calls Tryd.prog 73 #[.agg #[.int .u64 h, .int .u64 e], .pointer (some ⟨gx, 0, none⟩), .pointer (some ⟨gs, 0, none⟩)] w fun r w' => r = .returned (.bool (h == h0 && ripeB e ep)) ∧ Below w.heap.size w w' := by
  have RP := hide (fun w2 => sripe_any v0 v1 v2 v3 v4 v5 v6 v7 v9 v10 v11 v12 v13 v14 v15 v16 v17 v18 v19 v20 v21 ep h e w2 he hp)
  have B0 := ((Below.refl w.heap.size w).alloc (Nat.le_refl _) (.cells #[.int .u64 h, .int .u64 e] 31))
  replace hx := hx.alloc (.cells #[.int .u64 h, .int .u64 e] 31)
  replace hs := hs.alloc (.cells #[.int .u64 h, .int .u64 e] 31)
  have hr := Blk.new w 31 #[.int .u64 h, .int .u64 e]
  have mx := fun i => hx.cell i
  have mr := fun i => hr.cell i
  have R3 := hs.range
  rcases hq : (h == h0) with _ | _
  · rw [Bool.false_and]
    go_enter Tryd.func73, Tryd.ntmps73
    go_wp2_with fail
    go_ret
    exact ⟨rfl, B0⟩
  · rw [Bool.true_and]
    go_enter Tryd.func73, Tryd.ntmps73
    go_wp2_with (first | (refine wpList_load_midG (by rfl) 51 (.tmp 2) rfl gs 0 (by rfl) [v0, v1, v2, v3, v4, v5, v6, v7, .int .u64 ep, v9, v10, v11, v12, v13, v14, v15, v16, v17, v18, v19, v20, v21] _ R3 Tryd.underlying51 rfl (by kernel_rfl) ?_))
    refine (RP.out _).mono ?_
    rintro r w1 ⟨rfl, hb⟩
    go_wp2_with fail
    go_ret
    exact ⟨rfl, B0.trans (hb.mono B0.size)⟩
set_option maxRecDepth 100000 in
set_option maxHeartbeats 4000000 in
theorem asked1_any (v0 v1 v2 v3 v4 v5 v6 v7 v9 v10 v11 v12 v13 v14 v15 v16 v17 v18 v19 v20 v21 : Value) (ep h e h0 : Int) (w : World) (gx gs : Nat) (he : W64 e) (hp : W64 ep) (hx : Blk w gx 29 #[.int .u64 h0]) (hs : Blk w gs 51 #[v0, v1, v2, v3, v4, v5, v6, v7, .int .u64 ep, v9, v10, v11, v12, v13, v14, v15, v16, v17, v18, v19, v20, v21]) :
    Calls Tryd.prog 69 #[.agg #[.int .u64 h, .int .u64 e], .pointer (some ⟨gx, 0, none⟩), .pointer (some ⟨gs, 0, none⟩)] w fun r w' => r = .returned (.bool (h == h0 && ripeB e ep)) ∧ Below w.heap.size w w' := by
  have RP := hide (fun w2 => sripe_any v0 v1 v2 v3 v4 v5 v6 v7 v9 v10 v11 v12 v13 v14 v15 v16 v17 v18 v19 v20 v21 ep h e w2 he hp)
  have B0 := ((Below.refl w.heap.size w).alloc (Nat.le_refl _) (.cells #[.int .u64 h, .int .u64 e] 31))
  replace hx := hx.alloc (.cells #[.int .u64 h, .int .u64 e] 31)
  replace hs := hs.alloc (.cells #[.int .u64 h, .int .u64 e] 31)
  have hr := Blk.new w 31 #[.int .u64 h, .int .u64 e]
  have mx := fun i => hx.cell i
  have mr := fun i => hr.cell i
  have R3 := hs.range
  rcases hq : (h == h0) with _ | _
  · rw [Bool.false_and]
    go_enter Tryd.func69, Tryd.ntmps69
    go_wp2_with fail
    go_ret
    exact ⟨rfl, B0⟩
  · rw [Bool.true_and]
    go_enter Tryd.func69, Tryd.ntmps69
    go_wp2_with (first | (refine wpList_load_midG (by rfl) 51 (.tmp 2) rfl gs 0 (by rfl) [v0, v1, v2, v3, v4, v5, v6, v7, .int .u64 ep, v9, v10, v11, v12, v13, v14, v15, v16, v17, v18, v19, v20, v21] _ R3 Tryd.underlying51 rfl (by kernel_rfl) ?_))
    refine (RP.out _).mono ?_
    rintro r w1 ⟨rfl, hb⟩
    go_wp2_with fail
    go_ret
    exact ⟨rfl, B0.trans (hb.mono B0.size)⟩
theorem idxI_any {α : Type} (p : α → Bool) (l : List α) : decide (0 ≤ idxI p l) = l.any p := by
  rcases idxI_cut p l with ⟨h, h2⟩ | ⟨k, h, h2, h3⟩
  · rw [h]
    have : ∀ x ∈ l, p x = false := by
      intro x hx
      rcases hp : p x with _ | _
      · rfl
      · exfalso
        have h9 := List.length_eraseP_of_mem hx hp
        rw [h2] at h9
        have := List.length_pos_of_mem hx
        omega
    rw [show l.any p = false by rw [List.any_eq_false]; intro x hx; rw [this x hx]; simp]
    rfl
  · rw [h, show decide ((0 : Int) ≤ (k : Int)) = true by simp]
    symm
    rcases ha : l.any p with _ | _
    · exfalso
      have h9 := List.any_eq_false.1 ha
      have := idxI_none p l (fun x hx => by simpa using h9 x hx)
      omega
    · rfl
set_option maxHeartbeats 400000 in
theorem containsr_any (A : Option Addr) (n c : Nat) (l : List (Int × Int)) (fid : FuncId) (bd caps : Array Value) (p : (Int × Int) → Bool) (w : World) (hl : l.length = n) (hn : n ≤ 1000) (hr : Reads w w.heap.size 2 A n (rec2 l))
    (hcf : ∀ args w', (callFunc fid args).run Tryd.prog w' = .ok (.enter fid args) w')
    (hyes : ∀ x ∈ l, ∀ w', Below w.heap.size w w' → Calls Tryd.prog fid (bd ++ #[.agg #[.int .u64 x.1, .int .u64 x.2]] ++ caps) w' fun e w'' => e = .returned (.bool (p x)) ∧ Below w'.heap.size w' w'') :
    Calls Tryd.prog 43 #[.slice A n c, .func (.func fid) bd caps] w fun e w' => e = .returned (.bool (l.any p)) ∧ Below w.heap.size w w' := by
  have IX := hide (idxR_any A n c l fid bd caps p w hl hn hr hcf hyes)
  have HA := hide (show decide (0 ≤ idxI p l) = l.any p from idxI_any p l)
  clear hyes hcf hr
  generalize idxI p l = i at *
  go_enter Tryd.func43, Tryd.ntmps43
  go_wp2_with fail
  refine IX.out.mono ?_
  rintro e w1 ⟨rfl, hb⟩
  go_wp2_with fail
  go_ret
  exact ⟨by rw [← HA.out]; rfl, hb⟩
end Go.Proofs.YtokcbipmocpllaaDoor

