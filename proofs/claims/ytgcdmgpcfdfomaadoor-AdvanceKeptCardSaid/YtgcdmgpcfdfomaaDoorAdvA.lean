/-
  An epoch that goes on: whatever it is told, whatever it wants.
-/
import Derived.Test.YtgcdmgpcfdfomaaDoorAdvB
import Derived.Test.YtgcdmgpcfdfomaaDoorAdvW
import Derived.Test.YtgcdmgpcfdfomaaDoorAdvZ
import Derived.Test.YtgcdmgpcfdfomaaDoorAdvE
import Derived.Laws.StructEq
import Derived.Test.YtgcdmgpcfdfomaaDoorLayH
import Derived.Deep.RegionHeld3
import Derived.Deep.RegionWith
namespace Go.Proofs.YtgcdmgpcfdfomaaDoor
open Go.RowKit
attribute [local go_sem] past_cell past_cell_add


def rO (x : Av) : Int := if x.k = 0 then max x.oc 1 else x.oc
def avV (s t f l p own : Int) (x : Av) : Value := .agg #[.int .i64 s, .int .i64 t, .int .i64 f, .int .i64 l, .int .i64 p, .int .i64 own, .int .i64 x.k, .int .i64 x.oc, .int .u64 x.ep, .int .i64 x.th, .int .u64 x.wd, .int .u64 (x.ev : Int), .int .i64 x.ju]
def raV (own : Int) (x : Av) (A : Option Addr) (c : Nat) : Value := .agg #[.int .i64 own, .int .i64 x.k, .int .i64 (rO x), .int .u64 x.ep, .int .i64 x.th, .int .u64 x.wd, .slice A (evL x.ev 64).length c, .int .i64 (x.ju - 1)]
theorem u64_wrap {a : Int} (h : 0 ≤ a) (h2 : a ≤ 18446744073709551615) : IntKind.u64.wrap a = a := IntWalk.u64_in _ (by omega)
theorem or_at (n : Nat) (th : Int) (hn : n < 2 ^ 64) (ht : 0 ≤ th ∧ th < 64) : IntKind.u64.wrap (2 ^ th.toNat) = ((2 ^ th.toNat : Nat) : Int) ∧ bits .or .u64 (n : Int) ((2 ^ th.toNat : Nat) : Int) = ((n ||| 2 ^ th.toNat : Nat) : Int) := by
  have h1 : 2 ^ th.toNat < 2 ^ 64 := Nat.pow_lt_pow_right (by omega) (by omega)
  refine ⟨?_, bits_or_u64_nat _ _ (by simpa using hn) (by simpa using h1)⟩
  rw [show ((2 : Int) ^ th.toNat) = ((2 ^ th.toNat : Nat) : Int) by simp]
  generalize 2 ^ th.toNat = z at *
  have h64 : (2 : Nat) ^ 64 = 18446744073709551616 := by decide
  rw [h64] at h1
  exact u64_wrap (by omega) (by omega)
theorem aTook_zero {own t p : Int} {x : Av} {g : Int} (h : x.k = 0) : aTook own t p x g = x := by
  unfold aTook
  rw [if_pos h]
theorem rO_next (t q oc ep th wd : Int) (ev : Nat) (ju : Int) : rO ⟨aStep t q, oc, ep, th, wd, ev, ju⟩ = oc := by
  unfold rO aStep
  simp only
  split <;> simp
theorem atook_any (s t f l p own g : Int) (x : Av) (Y : Prop) (w : World) (hx : AvOk own t Y x) (hp : I64 p) (hg : W64 g) :
    Calls Tryd.prog 13 #[avV s t f l p own x, .int .u64 g] w fun e w' => e = .returned (avV s t f l p own (aTook own t p x g)) ∧ Below w.heap.size w w' := by
  obtain ⟨k, oc, ep, th, wd, ev, ju⟩ := x
  obtain ⟨hk, he, hw, ho, hj, hv, hz, hl, h1⟩ := hx
  simp only at hk he hw ho hj hv hz hl h1
  unfold avV
  rcases hk with rfl | rfl | rfl | rfl | rfl | rfl
  · exact atook_0 s t f l p own oc ep th wd ev ju g w
  · have e : aTook own t p ⟨1, oc, ep, th, wd, ev, ju⟩ g = ⟨aStep t (aThr own 0), oc, g, aThr own 0, wd, ev, 0⟩ := by simp [aTook, aNext]
    rw [e]
    exact atook_1 s t f l p own oc ep th wd ev ju g w
  · have hlt := hl (.inl rfl)
    obtain ⟨hY, ht, hown, hth, hv2⟩ := hz.resolve_left (by decide)
    cases hb : ablocks g ep with
    | true =>
      have e : aTook own t p ⟨2, oc, ep, th, wd, ev, ju⟩ g = ⟨3, oc, ep, th, g, ev, 0⟩ := by simp [aTook, hb]
      rw [e]
      exact atook_2b s t f l p own oc ep th wd ev ju g w hg he hb
    | false =>
      have e : aTook own t p ⟨2, oc, ep, th, wd, ev, ju⟩ g = ⟨aStep t (aThr own (th + 1)), oc, ep, aThr own (th + 1), g, ev, 0⟩ := by simp [aTook, aNext, hb]
      rw [e]
      exact atook_2n s t f l p own oc ep th wd ev ju g w hg he hb (by omega)
  · cases hb : astall wd g p with
    | true =>
      have e : aTook own t p ⟨3, oc, ep, th, wd, ev, ju⟩ g = ⟨4, oc, ep, th, wd, ev, 0⟩ := by simp [aTook, hb]
      rw [e]
      exact atook_3y s t f l p own oc ep th wd ev ju g w hw hp hb
    | false =>
      have e : aTook own t p ⟨3, oc, ep, th, wd, ev, ju⟩ g = ⟨0, 1, ep, th, wd, ev, 0⟩ := by simp [aTook, hb]
      rw [e]
      exact atook_3n s t f l p own oc ep th wd ev ju g w hw hp hb
  · have hlt := hl (.inr (.inr rfl))
    obtain ⟨hY, ht, hown, hth, hv2⟩ := hz.resolve_left (by decide)
    by_cases hg1 : g = 1
    · subst hg1
      have e : aTook own t p ⟨4, oc, ep, th, wd, ev, ju⟩ 1 = ⟨aStep t (aThr own (th + 1)), oc, ep, aThr own (th + 1), wd, ev ||| 2 ^ th.toNat, th + 1⟩ := by simp [aTook, aNext]
      rw [e]
      obtain ⟨o1, o2⟩ := or_at ev th hv (by omega)
      exact atook_4y s t f l p own oc ep th wd ev ju _ _ w (by omega) o1 o2
    · have e : aTook own t p ⟨4, oc, ep, th, wd, ev, ju⟩ g = ⟨2, oc, ep, th, wd, ev, 0⟩ := by simp [aTook, hg1]
      rw [e]
      exact atook_4n s t f l p own oc ep th wd ev ju g w (by simpa using hg1)
  · by_cases hg1 : g = 1
    · subst hg1
      exact atook_5y s t f l p own oc ep th wd ev ju w
    · have e : aTook own t p ⟨5, oc, ep, th, wd, ev, ju⟩ g = ⟨0, 2, ep, th, wd, ev, 0⟩ := by simp [aTook, hg1]
      rw [e]
      exact atook_5n s t f l p own oc ep th wd ev ju g w (by simpa using hg1)
theorem evLen (n : Nat) : (evL n 64).length ≤ 64 := evL_len n 64
def RaTook (own : Int) (x : Av) (base : Nat) (e : Ending) (w' : World) : Prop := ∃ A' c', e = .returned (raV own x A' c') ∧ w'.ownsRow base 3 1 (.slice A' (evL x.ev 64).length c') (evL x.ev 64).length (ints .i64 (evL x.ev 64))
theorem RaTook.same {own : Int} {x : Av} {base : Nat} {A : Option Addr} {c : Nat} {w : World} {e : Ending} {w' : World} (ho : w.ownsRow base 3 1 (.slice A (evL x.ev 64).length c) (evL x.ev 64).length (ints .i64 (evL x.ev 64))) (he : e = .returned (raV own x A c)) (hb : Below w.heap.size w w') : RaTook own x base e w' := ⟨A, c, he, own_below ho hb⟩
theorem awant_any (s t f l p own : Int) (x : Av) (Y : Prop) (w : World) (hx : AvOk own t Y x) (hY : Y → (1 ≤ s ∧ s ≤ 1000) ∧ (4 ≤ f ∧ f ≤ 64)) :
    Calls Tryd.prog 14 #[avV s t f l p own x] w fun e w' => e = .returned (.agg #[.int .i64 (aAsk x).1, .int .i64 (aAsk x).2.1, .int .u64 (aAsk x).2.2.1, .int .u64 (aAsk x).2.2.2]) ∧ Below w.heap.size w w' := by
  obtain ⟨k, oc, ep, th, wd, ev, ju⟩ := x
  obtain ⟨hk, he, hw, ho, hj, hv, hz, hl, h1⟩ := hx
  simp only at hk he hw ho hj hv hz hl h1
  rcases hk with rfl | rfl | rfl | rfl | rfl | rfl
  · exact awant_0 s t f l p own oc ep th wd ev ju w
  all_goals
    obtain ⟨hyy, ht, hown, hth, hv2⟩ := hz.resolve_left (by decide)
    obtain ⟨hs, hf⟩ := hY hyy
  · exact awant_1 s t f l p own oc ep th wd ev ju w hs ht hf
  · exact awant_2 s t f l p own oc ep th wd ev ju w hs ht hf ⟨hth.1, hl (.inl rfl)⟩
  · exact awant_3 s t f l p own oc ep th wd ev ju w hs ht hf
  · exact awant_4 s t f l p own oc ep th wd ev ju w hs ht hf ⟨hth.1, hl (.inr (.inr rfl))⟩ hw
  · exact awant_5 s t f l p own oc ep th wd ev ju w hs ht hf he
theorem adone_any (s t f l p own : Int) (x : Av) (w : World) :
    Calls Tryd.prog 12 #[avV s t f l p own x] w fun e w' => e = .returned (.tuple #[.int .i64 (if x.k = 0 then rO x else 0), .bool (x.k == 0)]) ∧ Below w.heap.size w w' := by
  obtain ⟨k, oc, ep, th, wd, ev, ju⟩ := x
  by_cases h : k = 0
  · subst h
    exact adone_0 s t f l p own oc ep th wd ev ju w
  · have hk : (k == 0) = false := by simpa using h
    simp only [hk, if_neg h]
    exact adone_n s t f l p own oc ep th wd ev ju k w hk
set_option maxRecDepth 100000 in
set_option maxHeartbeats 2000000 in
theorem anew_yes (s t f l p own : Int) (w : World) (hs : 1 ≤ s ∧ s ≤ 1000) (ht : 1 ≤ t ∧ t ≤ 64) (hf : 4 ≤ f ∧ f ≤ 64) (hth : 0 ≤ own ∧ own < t) :
    Calls Tryd.prog 10 #[.agg #[.int .i64 s, .int .i64 t, .int .i64 f, .int .i64 l, .int .i64 p], .int .i64 own] w fun e w' => e = .returned (.agg #[.int .i64 s, .int .i64 t, .int .i64 f, .int .i64 l, .int .i64 p, .int .i64 own, .int .i64 1, .int .i64 0, .int .u64 0, .int .i64 0, .int .u64 0, .int .u64 0, .int .i64 0]) ∧ Below w.heap.size w w' := by
  have C := hide (fun w2 => lann_any s t f l p own w2 hs ht hf)
  rw [atp4 hth] at C
  have q0 : 0 ≤ 3 + own := by omega
  generalize 3 + own = q at *
  have bx := Blk.new w 37 #[.int .i64 s, .int .i64 t, .int .i64 f, .int .i64 l, .int .i64 p]
  have B0 := (Below.refl w.heap.size w).alloc (Nat.le_refl _) (.cells #[.int .i64 s, .int .i64 t, .int .i64 f, .int .i64 l, .int .i64 p] 37)
  have bo := Blk.new (w.alloc (.cells #[.int .i64 s, .int .i64 t, .int .i64 f, .int .i64 l, .int .i64 p] 37)) 39 #[.int .i64 0, .int .i64 0, .int .i64 0, .int .i64 0, .int .i64 0, .int .i64 0, .int .i64 0, .int .i64 0, .int .u64 0, .int .i64 0, .int .u64 0, .int .u64 0, .int .i64 0]
  replace B0 := B0.alloc B0.size (.cells #[.int .i64 0, .int .i64 0, .int .i64 0, .int .i64 0, .int .i64 0, .int .i64 0, .int .i64 0, .int .i64 0, .int .u64 0, .int .i64 0, .int .u64 0, .int .u64 0, .int .i64 0] 39)
  replace bx := bx.alloc (.cells #[.int .i64 0, .int .i64 0, .int .i64 0, .int .i64 0, .int .i64 0, .int .i64 0, .int .i64 0, .int .i64 0, .int .u64 0, .int .i64 0, .int .u64 0, .int .u64 0, .int .i64 0] 39)
  rw [World.size_alloc] at bo
  go_enter Tryd.func10, Tryd.ntmps10
  go_wp2_with fail
  refine (C.out _).mono ?_
  rintro e w1 ⟨rfl, hb1⟩
  try replace bx := bx.below hb1 bx.lt
  try replace bo := bo.below hb1 bo.lt
  try replace by_ := by_.below hb1 by_.lt
  replace B0 := B0.trans (hb1.mono B0.size)
  clear hb1
  try clear mx lx
  try clear mo lo zo
  try clear my ly zy
  try have mx := fun i => bx.cell i
  try have lx := bx.lt
  try have mo := fun i => bo.cell i
  try have lo := bo.lt
  try have zo := fun i => bo.frozen i
  try have my := fun i => by_.cell i
  try have ly := by_.lt
  try have zy := fun i => by_.frozen i
  go_wp2_with fail
  have b9 := bo.put13 (.int .i64 s) (.int .i64 t) (.int .i64 f) (.int .i64 l) (.int .i64 p) (.int .i64 own) (.int .i64 1) (.int .i64 0) (.int .u64 0) (.int .i64 0) (.int .u64 0) (.int .u64 0) (.int .i64 0)
  have B9 := below_put13 B0 (g := w.heap.size + 1) (by omega) (.int .i64 s) (.int .i64 t) (.int .i64 f) (.int .i64 l) (.int .i64 p) (.int .i64 own) (.int .i64 1) (.int .i64 0) (.int .u64 0) (.int .i64 0) (.int .u64 0) (.int .u64 0) (.int .i64 0)
  have m9 := fun i => b9.cell i
  refine bodyPost_ret (v := .agg #[.int .i64 s, .int .i64 t, .int .i64 f, .int .i64 l, .int .i64 p, .int .i64 own, .int .i64 1, .int .i64 0, .int .u64 0, .int .i64 0, .int .u64 0, .int .u64 0, .int .i64 0]) (by simp [results, Tryd.results10, go_sem, m9]) rfl ⟨rfl, by first | exact B9 | exact B9.drew⟩
set_option maxRecDepth 100000 in
set_option maxHeartbeats 2000000 in
theorem anew_no (s t f l p own : Int) (w : World) (hs : 1 ≤ s ∧ s ≤ 1000) (ht : 1 ≤ t ∧ t ≤ 64) (hf : 4 ≤ f ∧ f ≤ 64) (hth : own < 0 ∨ t ≤ own) :
    Calls Tryd.prog 10 #[.agg #[.int .i64 s, .int .i64 t, .int .i64 f, .int .i64 l, .int .i64 p], .int .i64 own] w fun e w' => e = .returned (.agg #[.int .i64 0, .int .i64 0, .int .i64 0, .int .i64 0, .int .i64 0, .int .i64 0, .int .i64 0, .int .i64 0, .int .u64 0, .int .i64 0, .int .u64 0, .int .u64 0, .int .i64 0]) ∧ Below w.heap.size w w' := by
  have C := hide (fun w2 => lann_any s t f l p own w2 hs ht hf)
  rw [atp4_no hth] at C
  have bx := Blk.new w 37 #[.int .i64 s, .int .i64 t, .int .i64 f, .int .i64 l, .int .i64 p]
  have B0 := (Below.refl w.heap.size w).alloc (Nat.le_refl _) (.cells #[.int .i64 s, .int .i64 t, .int .i64 f, .int .i64 l, .int .i64 p] 37)
  have bo := Blk.new (w.alloc (.cells #[.int .i64 s, .int .i64 t, .int .i64 f, .int .i64 l, .int .i64 p] 37)) 39 #[.int .i64 0, .int .i64 0, .int .i64 0, .int .i64 0, .int .i64 0, .int .i64 0, .int .i64 0, .int .i64 0, .int .u64 0, .int .i64 0, .int .u64 0, .int .u64 0, .int .i64 0]
  replace B0 := B0.alloc B0.size (.cells #[.int .i64 0, .int .i64 0, .int .i64 0, .int .i64 0, .int .i64 0, .int .i64 0, .int .i64 0, .int .i64 0, .int .u64 0, .int .i64 0, .int .u64 0, .int .u64 0, .int .i64 0] 39)
  replace bx := bx.alloc (.cells #[.int .i64 0, .int .i64 0, .int .i64 0, .int .i64 0, .int .i64 0, .int .i64 0, .int .i64 0, .int .i64 0, .int .u64 0, .int .i64 0, .int .u64 0, .int .u64 0, .int .i64 0] 39)
  rw [World.size_alloc] at bo
  go_enter Tryd.func10, Tryd.ntmps10
  go_wp2_with fail
  refine (C.out _).mono ?_
  rintro e w1 ⟨rfl, hb1⟩
  try replace bx := bx.below hb1 bx.lt
  try replace bo := bo.below hb1 bo.lt
  try replace by_ := by_.below hb1 by_.lt
  replace B0 := B0.trans (hb1.mono B0.size)
  clear hb1
  try clear mx lx
  try clear mo lo zo
  try clear my ly zy
  try have mx := fun i => bx.cell i
  try have lx := bx.lt
  try have mo := fun i => bo.cell i
  try have lo := bo.lt
  try have zo := fun i => bo.frozen i
  try have my := fun i => by_.cell i
  try have ly := by_.lt
  try have zy := fun i => by_.frozen i
  go_wp2_with fail
  have b9 := bo.put13 (.int .i64 0) (.int .i64 0) (.int .i64 0) (.int .i64 0) (.int .i64 0) (.int .i64 0) (.int .i64 0) (.int .i64 0) (.int .u64 0) (.int .i64 0) (.int .u64 0) (.int .u64 0) (.int .i64 0)
  have B9 := below_put13 B0 (g := w.heap.size + 1) (by omega) (.int .i64 0) (.int .i64 0) (.int .i64 0) (.int .i64 0) (.int .i64 0) (.int .i64 0) (.int .i64 0) (.int .i64 0) (.int .u64 0) (.int .i64 0) (.int .u64 0) (.int .u64 0) (.int .i64 0)
  have m9 := fun i => b9.cell i
  refine bodyPost_ret (v := .agg #[.int .i64 0, .int .i64 0, .int .i64 0, .int .i64 0, .int .i64 0, .int .i64 0, .int .i64 0, .int .i64 0, .int .u64 0, .int .i64 0, .int .u64 0, .int .u64 0, .int .i64 0]) (by simp [results, Tryd.results10, go_sem, m9]) rfl ⟨rfl, by first | exact B9 | exact B9.drew⟩
set_option maxRecDepth 100000 in
set_option maxHeartbeats 2000000 in
theorem anew_zero (own : Int) (w : World)  :
    Calls Tryd.prog 10 #[.agg #[.int .i64 0, .int .i64 0, .int .i64 0, .int .i64 0, .int .i64 0], .int .i64 own] w fun e w' => e = .returned (.agg #[.int .i64 0, .int .i64 0, .int .i64 0, .int .i64 0, .int .i64 0, .int .i64 0, .int .i64 0, .int .i64 0, .int .u64 0, .int .i64 0, .int .u64 0, .int .u64 0, .int .i64 0]) ∧ Below w.heap.size w w' := by
  have C := hide (fun w2 => lann_zero own w2)
  have bx := Blk.new w 37 #[.int .i64 0, .int .i64 0, .int .i64 0, .int .i64 0, .int .i64 0]
  have B0 := (Below.refl w.heap.size w).alloc (Nat.le_refl _) (.cells #[.int .i64 0, .int .i64 0, .int .i64 0, .int .i64 0, .int .i64 0] 37)
  have bo := Blk.new (w.alloc (.cells #[.int .i64 0, .int .i64 0, .int .i64 0, .int .i64 0, .int .i64 0] 37)) 39 #[.int .i64 0, .int .i64 0, .int .i64 0, .int .i64 0, .int .i64 0, .int .i64 0, .int .i64 0, .int .i64 0, .int .u64 0, .int .i64 0, .int .u64 0, .int .u64 0, .int .i64 0]
  replace B0 := B0.alloc B0.size (.cells #[.int .i64 0, .int .i64 0, .int .i64 0, .int .i64 0, .int .i64 0, .int .i64 0, .int .i64 0, .int .i64 0, .int .u64 0, .int .i64 0, .int .u64 0, .int .u64 0, .int .i64 0] 39)
  replace bx := bx.alloc (.cells #[.int .i64 0, .int .i64 0, .int .i64 0, .int .i64 0, .int .i64 0, .int .i64 0, .int .i64 0, .int .i64 0, .int .u64 0, .int .i64 0, .int .u64 0, .int .u64 0, .int .i64 0] 39)
  rw [World.size_alloc] at bo
  go_enter Tryd.func10, Tryd.ntmps10
  go_wp2_with fail
  refine (C.out _).mono ?_
  rintro e w1 ⟨rfl, hb1⟩
  try replace bx := bx.below hb1 bx.lt
  try replace bo := bo.below hb1 bo.lt
  try replace by_ := by_.below hb1 by_.lt
  replace B0 := B0.trans (hb1.mono B0.size)
  clear hb1
  try clear mx lx
  try clear mo lo zo
  try clear my ly zy
  try have mx := fun i => bx.cell i
  try have lx := bx.lt
  try have mo := fun i => bo.cell i
  try have lo := bo.lt
  try have zo := fun i => bo.frozen i
  try have my := fun i => by_.cell i
  try have ly := by_.lt
  try have zy := fun i => by_.frozen i
  go_wp2_with fail
  have b9 := bo.put13 (.int .i64 0) (.int .i64 0) (.int .i64 0) (.int .i64 0) (.int .i64 0) (.int .i64 0) (.int .i64 0) (.int .i64 0) (.int .u64 0) (.int .i64 0) (.int .u64 0) (.int .u64 0) (.int .i64 0)
  have B9 := below_put13 B0 (g := w.heap.size + 1) (by omega) (.int .i64 0) (.int .i64 0) (.int .i64 0) (.int .i64 0) (.int .i64 0) (.int .i64 0) (.int .i64 0) (.int .i64 0) (.int .u64 0) (.int .i64 0) (.int .u64 0) (.int .u64 0) (.int .i64 0)
  have m9 := fun i => b9.cell i
  refine bodyPost_ret (v := .agg #[.int .i64 0, .int .i64 0, .int .i64 0, .int .i64 0, .int .i64 0, .int .i64 0, .int .i64 0, .int .i64 0, .int .u64 0, .int .i64 0, .int .u64 0, .int .u64 0, .int .i64 0]) (by simp [results, Tryd.results10, go_sem, m9]) rfl ⟨rfl, by first | exact B9 | exact B9.drew⟩
end Go.Proofs.YtgcdmgpcfdfomaaDoor
