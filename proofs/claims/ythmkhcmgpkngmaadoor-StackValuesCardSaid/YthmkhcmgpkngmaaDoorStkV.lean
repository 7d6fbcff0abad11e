/-
  The Go function StackValues.
-/
import Derived.Test.YthmkhcmgpkngmaaDoorStkF
import Derived.Test.YthmkhcmgpkngmaaDoorPsh
import Derived.Test.YthmkhcmgpkngmaaDoorWords
import Derived.Test.YthmkhcmgpkngmaaDoorLayH
import Derived.Deep.RegionHeld3
import Derived.Deep.RegionWith
namespace Go.Proofs.YthmkhcmgpkngmaaDoor
open Go.RowKit
attribute [local go_sem] past_cell past_cell_add

def pAll (s : Int) (x : Int × Int × Int × Int × Int) (l : List Int) : Nat → Int × Int × Int × Int × Int
  | 0 => x
  | k + 1 => pTook s (pAll s x l k) (l.getD k 0)
def psAll (x : Int × Int × Int × Int) (l : List Int) : Nat → Int × Int × Int × Int
  | 0 => x
  | k + 1 => psTook (psAll x l k) (l.getD k 0)
theorem psAll_ok {x : Int × Int × Int × Int} {l : List Int} (h : PsOk x) : ∀ k, PsOk (psAll x l k)
  | 0 => h
  | k + 1 => psTook_ok (psAll_ok h k)
theorem pAll_ok {s : Int} {x : Int × Int × Int × Int × Int} {l : List Int} (h : PpOk s x) (hl : ∀ y ∈ l, W64 y) (hs : x.1 = 0 ∨ (1 ≤ s ∧ s ≤ 1000)) : ∀ k, PpOk s (pAll s x l k) ∧ ((pAll s x l k).1 = 0 ∨ (1 ≤ s ∧ s ≤ 1000))
  | 0 => ⟨h, hs⟩
  | k + 1 => by
    obtain ⟨h1, h2⟩ := pAll_ok h hl hs k
    have hw : W64 (l.getD k 0) := by
      by_cases hk : k < l.length
      · rw [show l.getD k 0 = l[k] by simp [List.getD, hk]]
        exact hl _ (List.getElem_mem hk)
      · rw [show l.getD k 0 = 0 by simp [List.getD, hk]]
        exact ⟨by omega, by omega⟩
    refine ⟨pTook_ok h1 hw (h2.imp id (·.2)), ?_⟩
    rcases h2 with h2 | h2
    · refine .inl ?_
      show (pTook s (pAll s x l k) (l.getD k 0)).1 = 0
      unfold pTook
      rw [if_pos h2]
      exact h2
    · exact .inr h2
def SvIn (s' t' f' l' p' s'' t'' f'' l'' p'' : Int) (m : Nat) (st : Nat → Int × Int × Int × Int × Int) (ut : Nat → Int × Int × Int × Int) (ga gb gx gy : Nat) (px : Int × Int × Int × Int × Int) (py : Int × Int × Int × Int) (w : World) (i : Value) (wr : World) : Prop :=
  ∃ k : Nat, i = .int .i64 (k : Int) ∧ k ≤ m ∧ Blk wr ga 50 #[.int .i64 s', .int .i64 t', .int .i64 f', .int .i64 l', .int .i64 p', .int .i64 (st k).1, .int .i64 (st k).2.1, .int .u64 (st k).2.2.1, .int .i64 (st k).2.2.2.1, .int .i64 (st k).2.2.2.2] ∧ Blk wr gb 70 #[.int .i64 s'', .int .i64 t'', .int .i64 f'', .int .i64 l'', .int .i64 p'', .int .i64 (ut k).1, .int .i64 (ut k).2.1, .int .u64 (ut k).2.2.1, .int .i64 (ut k).2.2.2] ∧ Blk wr gx 50 #[.int .i64 s', .int .i64 t', .int .i64 f', .int .i64 l', .int .i64 p', .int .i64 (px).1, .int .i64 (px).2.1, .int .u64 (px).2.2.1, .int .i64 (px).2.2.2.1, .int .i64 (px).2.2.2.2] ∧ Blk wr gy 70 #[.int .i64 s'', .int .i64 t'', .int .i64 f'', .int .i64 l'', .int .i64 p'', .int .i64 (py).1, .int .i64 (py).2.1, .int .u64 (py).2.2.1, .int .i64 (py).2.2.2] ∧ Below w.heap.size w wr
set_option maxRecDepth 100000 in
set_option maxHeartbeats 8000000 in
theorem svalues15 (s t f l p n0' s' t' f' l' p' s'' t'' f'' l'' p'' s1 t1 f1 l1 p1 q0 k0 n0 : Int) (A : Option Addr) (m c : Nat) (l0 : List Int) (w : World) (hT : Tab w) (hn : m ≤ 60) (hr : Reads w w.heap.size 1 A m (ints .u64 l0)) (hw : ∀ y ∈ l0, W64 y)
    (hok : PpOk s' (q0, 0, 0, 0, 0)) (hok2 : PsOk (k0, n0, 0, 0)) (hj : q0 = 0 ∨ (1 ≤ s' ∧ s' ≤ 1000))
    (NL : ∀ w2, Below w.heap.size w w2 → Calls Tryd.prog 11 #[.agg #[.int .i64 s, .int .i64 t, .int .i64 f, .int .i64 l, .int .i64 p]] w2 fun e w' => e = .returned (.agg #[.int .i64 s1, .int .i64 t1, .int .i64 f1, .int .i64 l1, .int .i64 p1]) ∧ Below w2.heap.size w2 w')
    (N : ∀ w2, Calls Tryd.prog 21 #[.agg #[.int .i64 s1, .int .i64 t1, .int .i64 f1, .int .i64 l1, .int .i64 p1]] w2 fun e w' => e = .returned (.agg #[.int .i64 s', .int .i64 t', .int .i64 f', .int .i64 l', .int .i64 p', .int .i64 q0, .int .i64 0, .int .u64 0, .int .i64 0, .int .i64 0]) ∧ Below w2.heap.size w2 w')
    (NP : ∀ w2, Calls Tryd.prog 33 #[.agg #[.int .i64 s1, .int .i64 t1, .int .i64 f1, .int .i64 l1, .int .i64 p1], .int .i64 n0'] w2 fun e w' => e = .returned (.agg #[.int .i64 s'', .int .i64 t'', .int .i64 f'', .int .i64 l'', .int .i64 p'', .int .i64 k0, .int .i64 n0, .int .u64 0, .int .i64 0]) ∧ Below w2.heap.size w2 w') :
    Calls Tryd.prog 7 #[.agg #[.int .i64 s, .int .i64 t, .int .i64 f, .int .i64 l, .int .i64 p], .int .i64 n0', .slice A m c] w fun e w' => e = .returned (.bool true) ∧ Below w.heap.size w w' := by
  have HR := hide hr
  have HW := hide hw
  have hlen := hr.lenWord
  have Aw := hide (fun w2 (hb : Below w.heap.size w w2) => awake15 w2 (hT.below hb))
  have NL' := hide NL
  have N' := hide N
  have NP' := hide NP
  obtain ⟨st, hst⟩ : ∃ st : Nat → Int × Int × Int × Int × Int, st = pAll s' (q0, 0, 0, 0, 0) l0 := ⟨_, rfl⟩
  obtain ⟨ut, hut⟩ : ∃ ut : Nat → Int × Int × Int × Int, ut = psAll (k0, n0, 0, 0) l0 := ⟨_, rfl⟩
  have Ok := hide (show ∀ k, PpOk s' (st k) ∧ ((st k).1 = 0 ∨ (1 ≤ s' ∧ s' ≤ 1000)) by intro k; rw [hst]; exact pAll_ok hok hw hj k)
  have Ok2 := hide (show ∀ k, PsOk (ut k) by intro k; rw [hut]; exact psAll_ok hok2 k)
  have Tk := hide (show ∀ (k : Nat) (hk : k < l0.length), st (k + 1) = pTook s' (st k) l0[k] by
    intro k hk
    rw [hst]
    show pTook s' _ (l0.getD k 0) = _
    rw [show l0.getD k 0 = l0[k] by simp [List.getD, hk]])
  have Tu := hide (show ∀ (k : Nat) (hk : k < l0.length), ut (k + 1) = psTook (ut k) l0[k] by
    intro k hk
    rw [hut]
    show psTook _ (l0.getD k 0) = _
    rw [show l0.getD k 0 = l0[k] by simp [List.getD, hk]])
  have S0 := hide (show st 0 = (q0, 0, 0, 0, 0) by rw [hst]; rfl)
  have U0 := hide (show ut 0 = (k0, n0, 0, 0) by rw [hut]; rfl)
  clear hst hut hlen hr hw NL N NP hok hok2 hj
  have bx := Blk.new w 23 #[.int .i64 s, .int .i64 t, .int .i64 f, .int .i64 l, .int .i64 p]
  have B0 := (Below.refl w.heap.size w).alloc (Nat.le_refl _) (.cells #[.int .i64 s, .int .i64 t, .int .i64 f, .int .i64 l, .int .i64 p] 23)
  go_enter Tryd.func7, Tryd.ntmps7
  go_wp2_with fail
  refine (NL'.out _ B0).mono ?_
  rintro e w1 ⟨rfl, hb1⟩
  try replace bx := bx.below hb1 bx.lt
  try replace bo := bo.below hb1 bo.lt
  try replace by_ := by_.below hb1 by_.lt
  replace B0 := B0.trans (hb1.mono B0.size)
  clear hb1
  try clear mx lx
  try clear mo lo zo
  try clear my ly zy
  try have mx := fun i => bx.cell i
  try have lx := bx.lt
  try have mo := fun i => bo.cell i
  try have lo := bo.lt
  try have zo := fun i => bo.frozen i
  try have my := fun i => by_.cell i
  try have ly := by_.lt
  try have zy := fun i => by_.frozen i
  go_wp2_with fail
  refine (N'.out _).mono ?_
  rintro e w2 ⟨rfl, hb1⟩
  replace bx := bx.below hb1 bx.lt
  replace B0 := B0.trans (hb1.mono B0.size)
  clear hb1
  have ba := Blk.new w2 50 #[.int .i64 s', .int .i64 t', .int .i64 f', .int .i64 l', .int .i64 p', .int .i64 q0, .int .i64 0, .int .u64 0, .int .i64 0, .int .i64 0]
  have hga : w.heap.size ≤ w2.heap.size := B0.size
  replace bx := bx.alloc (.cells #[.int .i64 s', .int .i64 t', .int .i64 f', .int .i64 l', .int .i64 p', .int .i64 q0, .int .i64 0, .int .u64 0, .int .i64 0, .int .i64 0] 50)
  replace B0 := B0.alloc B0.size (.cells #[.int .i64 s', .int .i64 t', .int .i64 f', .int .i64 l', .int .i64 p', .int .i64 q0, .int .i64 0, .int .u64 0, .int .i64 0, .int .i64 0] 50)
  try clear mx lx
  try clear mo lo zo
  try clear my ly zy
  try have mx := fun i => bx.cell i
  try have lx := bx.lt
  try have mo := fun i => bo.cell i
  try have lo := bo.lt
  try have zo := fun i => bo.frozen i
  try have my := fun i => by_.cell i
  try have ly := by_.lt
  try have zy := fun i => by_.frozen i
  go_wp2_with fail
  generalize w2.heap.size = ga at *
  refine (NL'.out _ B0).mono ?_
  rintro e w3 ⟨rfl, hb1⟩
  replace ba := ba.below hb1 ba.lt
  replace B0 := B0.trans (hb1.mono B0.size)
  clear hb1 bx mx lx
  go_wp2_with fail
  refine (NP'.out _).mono ?_
  rintro e w4 ⟨rfl, hb1⟩
  replace ba := ba.below hb1 ba.lt
  replace B0 := B0.trans (hb1.mono B0.size)
  clear hb1
  have la := ba.lt
  have hgb : w.heap.size ≤ w4.heap.size := B0.size
  have bb := Blk.new w4 70 #[.int .i64 s'', .int .i64 t'', .int .i64 f'', .int .i64 l'', .int .i64 p'', .int .i64 k0, .int .i64 n0, .int .u64 0, .int .i64 0]
  replace ba := ba.alloc (.cells #[.int .i64 s'', .int .i64 t'', .int .i64 f'', .int .i64 l'', .int .i64 p'', .int .i64 k0, .int .i64 n0, .int .u64 0, .int .i64 0] 70)
  replace B0 := B0.alloc B0.size (.cells #[.int .i64 s'', .int .i64 t'', .int .i64 f'', .int .i64 l'', .int .i64 p'', .int .i64 k0, .int .i64 n0, .int .u64 0, .int .i64 0] 70)
  have ca := fun i => ba.cell i
  have hab : ga ≠ w4.heap.size := by omega
  have hgx : w.heap.size ≤ w4.heap.size + 1 := by omega
  have hgy : w.heap.size ≤ w4.heap.size + 1 + 1 := by omega
  have hax : ga ≠ w4.heap.size + 1 := by omega
  have hay : ga ≠ w4.heap.size + 1 + 1 := by omega
  have hbx : w4.heap.size ≠ w4.heap.size + 1 := by omega
  have hby : w4.heap.size ≠ w4.heap.size + 1 + 1 := by omega
  have hxy : w4.heap.size + 1 ≠ w4.heap.size + 1 + 1 := by omega
  have bp := Blk.new (w4.alloc (.cells #[.int .i64 s'', .int .i64 t'', .int .i64 f'', .int .i64 l'', .int .i64 p'', .int .i64 k0, .int .i64 n0, .int .u64 0, .int .i64 0] 70)) 50 #[.int .i64 s', .int .i64 t', .int .i64 f', .int .i64 l', .int .i64 p', .int .i64 q0, .int .i64 0, .int .u64 0, .int .i64 0, .int .i64 0]
  rw [World.size_alloc] at bp
  replace ba := ba.alloc (.cells #[.int .i64 s', .int .i64 t', .int .i64 f', .int .i64 l', .int .i64 p', .int .i64 q0, .int .i64 0, .int .u64 0, .int .i64 0, .int .i64 0] 50)
  replace bb := bb.alloc (.cells #[.int .i64 s', .int .i64 t', .int .i64 f', .int .i64 l', .int .i64 p', .int .i64 q0, .int .i64 0, .int .u64 0, .int .i64 0, .int .i64 0] 50)
  replace B0 := B0.alloc B0.size (.cells #[.int .i64 s', .int .i64 t', .int .i64 f', .int .i64 l', .int .i64 p', .int .i64 q0, .int .i64 0, .int .u64 0, .int .i64 0, .int .i64 0] 50)
  have bq := Blk.new ((w4.alloc (.cells #[.int .i64 s'', .int .i64 t'', .int .i64 f'', .int .i64 l'', .int .i64 p'', .int .i64 k0, .int .i64 n0, .int .u64 0, .int .i64 0] 70)).alloc (.cells #[.int .i64 s', .int .i64 t', .int .i64 f', .int .i64 l', .int .i64 p', .int .i64 q0, .int .i64 0, .int .u64 0, .int .i64 0, .int .i64 0] 50)) 70 #[.int .i64 s'', .int .i64 t'', .int .i64 f'', .int .i64 l'', .int .i64 p'', .int .i64 k0, .int .i64 n0, .int .u64 0, .int .i64 0]
  rw [World.size_alloc, World.size_alloc] at bq
  replace ba := ba.alloc (.cells #[.int .i64 s'', .int .i64 t'', .int .i64 f'', .int .i64 l'', .int .i64 p'', .int .i64 k0, .int .i64 n0, .int .u64 0, .int .i64 0] 70)
  replace bb := bb.alloc (.cells #[.int .i64 s'', .int .i64 t'', .int .i64 f'', .int .i64 l'', .int .i64 p'', .int .i64 k0, .int .i64 n0, .int .u64 0, .int .i64 0] 70)
  replace bp := bp.alloc (.cells #[.int .i64 s'', .int .i64 t'', .int .i64 f'', .int .i64 l'', .int .i64 p'', .int .i64 k0, .int .i64 n0, .int .u64 0, .int .i64 0] 70)
  replace B0 := B0.alloc B0.size (.cells #[.int .i64 s'', .int .i64 t'', .int .i64 f'', .int .i64 l'', .int .i64 p'', .int .i64 k0, .int .i64 n0, .int .u64 0, .int .i64 0] 70)
  go_wp2_with fail
  clear ca
  generalize ((w4.alloc (.cells #[.int .i64 s'', .int .i64 t'', .int .i64 f'', .int .i64 l'', .int .i64 p'', .int .i64 k0, .int .i64 n0, .int .u64 0, .int .i64 0] 70)).alloc (.cells #[.int .i64 s', .int .i64 t', .int .i64 f', .int .i64 l', .int .i64 p', .int .i64 q0, .int .i64 0, .int .u64 0, .int .i64 0, .int .i64 0] 50)).alloc (.cells #[.int .i64 s'', .int .i64 t'', .int .i64 f'', .int .i64 l'', .int .i64 p'', .int .i64 k0, .int .i64 n0, .int .u64 0, .int .i64 0] 70) = w5 at *
  generalize w4.heap.size + 1 + 1 = gy at *
  generalize w4.heap.size + 1 = gx at *
  generalize w4.heap.size = gb at *
  clear NL' N' NP' la
  go_loopw [11] (SvIn s' t' f' l' p' s'' t'' f'' l'' p'' m st ut ga gb gx gy (q0, 0, 0, 0, 0) (k0, n0, 0, 0) w) (fun i _ => 1000 - (intOf i).toNat)
  case atStart => exact ⟨0, rfl, by omega, by rw [S0.out]; exact ba, by rw [U0.out]; exact bb, bp, bq, B0⟩
  case round =>
    obtain ⟨k, rfl, hkm, ha, hb', hx, hy, hb⟩ := hrel
    clear ba bb bp bq B0
    have c0 := fun i => ha.cell i
    have f0 := fun i => ha.frozen i
    have c1 := fun i => hb'.cell i
    have f1 := fun i => hb'.frozen i
    by_cases hlt : k < m
    · obtain ⟨a, rfl, hkl, z1⟩ := (HR.out.below hb).word hlt
      have hg := HW.out _ (List.getElem_mem hkl)
      have T1 := hide (fun w2 => ptook_any s' t' f' l' p' l0[k] (st k) w2 (Ok.out k).1 hg (Ok.out k).2)
      have T2 := hide (fun w2 => pstook_any s'' t'' f'' l'' p'' l0[k] (ut k) w2 (Ok2.out k))
      have Nx := hide (Tk.out k hkl)
      have Nu := hide (Tu.out k hkl)
      simp only [ppV, psV] at T1 T2
      generalize pTook s' (st k) l0[k] = x2 at *
      generalize psTook (ut k) l0[k] = y2 at *
      obtain ⟨q2, sl2, hd2, tr2, lk2⟩ := x2
      obtain ⟨k2, sm2, he2, tq2⟩ := y2
      simp only at T1 T2
      generalize hG : l0[k] = g at *
      go_wp2_with fail
      go_region_with ((first | (go_at_call 27; refine (T1.out _).mono ?_; rintro e wt ⟨rfl, hbt⟩; have e2 := ha.drew.below hbt ha.lt; have ce2 := fun i => e2.cell i; have fe2 := fun i => e2.frozen i)))
      all_goals
        have e3 := e2.put10 (.int .i64 s') (.int .i64 t') (.int .i64 f') (.int .i64 l') (.int .i64 p') (.int .i64 q2) (.int .i64 sl2) (.int .u64 hd2) (.int .i64 tr2) (.int .i64 lk2)
        have b3 := (hb'.drew.below hbt hb'.lt).off10 (g := ga) hab.symm (.int .i64 s') (.int .i64 t') (.int .i64 f') (.int .i64 l') (.int .i64 p') (.int .i64 q2) (.int .i64 sl2) (.int .u64 hd2) (.int .i64 tr2) (.int .i64 lk2)
        have x3 := (hx.drew.below hbt hx.lt).off10 (g := ga) hax.symm (.int .i64 s') (.int .i64 t') (.int .i64 f') (.int .i64 l') (.int .i64 p') (.int .i64 q2) (.int .i64 sl2) (.int .u64 hd2) (.int .i64 tr2) (.int .i64 lk2)
        have y3 := (hy.drew.below hbt hy.lt).off10 (g := ga) hay.symm (.int .i64 s') (.int .i64 t') (.int .i64 f') (.int .i64 l') (.int .i64 p') (.int .i64 q2) (.int .i64 sl2) (.int .u64 hd2) (.int .i64 tr2) (.int .i64 lk2)
        have B3 := below_put10 ((hb.drew).trans (hbt.mono hb.drew.size)) (g := ga) hga (.int .i64 s') (.int .i64 t') (.int .i64 f') (.int .i64 l') (.int .i64 p') (.int .i64 q2) (.int .i64 sl2) (.int .u64 hd2) (.int .i64 tr2) (.int .i64 lk2)
        generalize ((((((((((wt.setCell ⟨ga, 0, none⟩ (.int .i64 s')).setCell ⟨ga, 1, none⟩ (.int .i64 t')).setCell ⟨ga, 2, none⟩ (.int .i64 f')).setCell ⟨ga, 3, none⟩ (.int .i64 l')).setCell ⟨ga, 4, none⟩ (.int .i64 p')).setCell ⟨ga, 5, none⟩ (.int .i64 q2)).setCell ⟨ga, 6, none⟩ (.int .i64 sl2)).setCell ⟨ga, 7, none⟩ (.int .u64 hd2)).setCell ⟨ga, 8, none⟩ (.int .i64 tr2)).setCell ⟨ga, 9, none⟩ (.int .i64 lk2)) = w3 at *
        clear e2 ce2 fe2 c0 f0 c1 f1
        have cb3 := fun i => b3.cell i
        have fb3 := fun i => b3.frozen i
        obtain ⟨a', ha', _, z2⟩ := (HR.out.below B3).word hlt
        injection ha' with ha'
        subst ha'
        rw [hG] at z2
        go_wp2_with fail
        go_region_with ((first | (go_at_call 34; refine (T2.out _).mono ?_; rintro e wu ⟨rfl, hbu⟩; have b4 := b3.drew.below hbu b3.lt; have cb4 := fun i => b4.cell i; have fb4 := fun i => b4.frozen i)))
        all_goals
          have b5 := b4.put9 (.int .i64 s'') (.int .i64 t'') (.int .i64 f'') (.int .i64 l'') (.int .i64 p'') (.int .i64 k2) (.int .i64 sm2) (.int .u64 he2) (.int .i64 tq2)
          have e5 := (e3.drew.below hbu e3.lt).off9 (g := gb) hab (.int .i64 s'') (.int .i64 t'') (.int .i64 f'') (.int .i64 l'') (.int .i64 p'') (.int .i64 k2) (.int .i64 sm2) (.int .u64 he2) (.int .i64 tq2)
          have x5 := (x3.drew.below hbu x3.lt).off9 (g := gb) hbx.symm (.int .i64 s'') (.int .i64 t'') (.int .i64 f'') (.int .i64 l'') (.int .i64 p'') (.int .i64 k2) (.int .i64 sm2) (.int .u64 he2) (.int .i64 tq2)
          have y5 := (y3.drew.below hbu y3.lt).off9 (g := gb) hby.symm (.int .i64 s'') (.int .i64 t'') (.int .i64 f'') (.int .i64 l'') (.int .i64 p'') (.int .i64 k2) (.int .i64 sm2) (.int .u64 he2) (.int .i64 tq2)
          have B5 := below_put9 ((B3.drew).trans (hbu.mono B3.drew.size)) (g := gb) hgb (.int .i64 s'') (.int .i64 t'') (.int .i64 f'') (.int .i64 l'') (.int .i64 p'') (.int .i64 k2) (.int .i64 sm2) (.int .u64 he2) (.int .i64 tq2)
          generalize (((((((((wu.setCell ⟨gb, 0, none⟩ (.int .i64 s'')).setCell ⟨gb, 1, none⟩ (.int .i64 t'')).setCell ⟨gb, 2, none⟩ (.int .i64 f'')).setCell ⟨gb, 3, none⟩ (.int .i64 l'')).setCell ⟨gb, 4, none⟩ (.int .i64 p'')).setCell ⟨gb, 5, none⟩ (.int .i64 k2)).setCell ⟨gb, 6, none⟩ (.int .i64 sm2)).setCell ⟨gb, 7, none⟩ (.int .u64 he2)).setCell ⟨gb, 8, none⟩ (.int .i64 tq2)) = w5 at *
          clear b4 cb4 fb4 cb3 fb3
          go_wp2_with fail
          go_roundw
          case measure => simp [intOf]; omega
          case rel => exact ⟨k + 1, by go_num, by omega, by rw [Nx.out]; exact e5, by rw [Nu.out]; exact b5, x5, y5, B5⟩
    · obtain rfl : m = k := by omega
      have hx0 : Blk wr gx 50 #[.int .i64 s', .int .i64 t', .int .i64 f', .int .i64 l', .int .i64 p', .int .i64 (st 0).1, .int .i64 (st 0).2.1, .int .u64 (st 0).2.2.1, .int .i64 (st 0).2.2.2.1, .int .i64 (st 0).2.2.2.2] := by rw [S0.out]; exact hx
      have hy0 : Blk wr gy 70 #[.int .i64 s'', .int .i64 t'', .int .i64 f'', .int .i64 l'', .int .i64 p'', .int .i64 (ut 0).1, .int .i64 (ut 0).2.1, .int .u64 (ut 0).2.2.1, .int .i64 (ut 0).2.2.2] := by rw [U0.out]; exact hy
      clear hlt c0 f0 c1 f1 hx hy
      generalize wr = wq at *
      go_wp2_with fail
      go_loopw [12] (SvIn s' t' f' l' p' s'' t'' f'' l'' p'' m st ut gx gy ga gb (st m) (ut m) w) (fun i _ => 1000 - (intOf i).toNat)
      case atStart => exact ⟨0, rfl, by omega, hx0, hy0, ha, hb', hb⟩
      clear hkm ha hb' hb
      case round =>
        obtain ⟨k, rfl, hkm, ha, hb', hx, hy, hb⟩ := hrel
        clear hx0 hy0
        have c0 := fun i => ha.cell i
        have f0 := fun i => ha.frozen i
        have c1 := fun i => hb'.cell i
        have f1 := fun i => hb'.frozen i
        by_cases hlt : k < m
        · obtain ⟨a, rfl, hkl, z1⟩ := (HR.out.below hb).word hlt
          have hg := HW.out _ (List.getElem_mem hkl)
          have T1 := hide (fun w2 => ptook_any s' t' f' l' p' l0[k] (st k) w2 (Ok.out k).1 hg (Ok.out k).2)
          have T2 := hide (fun w2 => pstook_any s'' t'' f'' l'' p'' l0[k] (ut k) w2 (Ok2.out k))
          have Nx := hide (Tk.out k hkl)
          have Nu := hide (Tu.out k hkl)
          simp only [ppV, psV] at T1 T2
          generalize pTook s' (st k) l0[k] = x2 at *
          generalize psTook (ut k) l0[k] = y2 at *
          obtain ⟨q2, sl2, hd2, tr2, lk2⟩ := x2
          obtain ⟨k2, sm2, he2, tq2⟩ := y2
          simp only at T1 T2
          generalize hG : l0[k] = g at *
          go_wp2_with fail
          go_region_with ((first | (go_at_call 27; refine (T1.out _).mono ?_; rintro e wt ⟨rfl, hbt⟩; have e2 := ha.drew.below hbt ha.lt; have ce2 := fun i => e2.cell i; have fe2 := fun i => e2.frozen i)))
          all_goals
            have e3 := e2.put10 (.int .i64 s') (.int .i64 t') (.int .i64 f') (.int .i64 l') (.int .i64 p') (.int .i64 q2) (.int .i64 sl2) (.int .u64 hd2) (.int .i64 tr2) (.int .i64 lk2)
            have b3 := (hb'.drew.below hbt hb'.lt).off10 (g := gx) hxy.symm (.int .i64 s') (.int .i64 t') (.int .i64 f') (.int .i64 l') (.int .i64 p') (.int .i64 q2) (.int .i64 sl2) (.int .u64 hd2) (.int .i64 tr2) (.int .i64 lk2)
            have x3 := (hx.drew.below hbt hx.lt).off10 (g := gx) hax (.int .i64 s') (.int .i64 t') (.int .i64 f') (.int .i64 l') (.int .i64 p') (.int .i64 q2) (.int .i64 sl2) (.int .u64 hd2) (.int .i64 tr2) (.int .i64 lk2)
            have y3 := (hy.drew.below hbt hy.lt).off10 (g := gx) hbx (.int .i64 s') (.int .i64 t') (.int .i64 f') (.int .i64 l') (.int .i64 p') (.int .i64 q2) (.int .i64 sl2) (.int .u64 hd2) (.int .i64 tr2) (.int .i64 lk2)
            have B3 := below_put10 ((hb.drew).trans (hbt.mono hb.drew.size)) (g := gx) hgx (.int .i64 s') (.int .i64 t') (.int .i64 f') (.int .i64 l') (.int .i64 p') (.int .i64 q2) (.int .i64 sl2) (.int .u64 hd2) (.int .i64 tr2) (.int .i64 lk2)
            generalize ((((((((((wt.setCell ⟨gx, 0, none⟩ (.int .i64 s')).setCell ⟨gx, 1, none⟩ (.int .i64 t')).setCell ⟨gx, 2, none⟩ (.int .i64 f')).setCell ⟨gx, 3, none⟩ (.int .i64 l')).setCell ⟨gx, 4, none⟩ (.int .i64 p')).setCell ⟨gx, 5, none⟩ (.int .i64 q2)).setCell ⟨gx, 6, none⟩ (.int .i64 sl2)).setCell ⟨gx, 7, none⟩ (.int .u64 hd2)).setCell ⟨gx, 8, none⟩ (.int .i64 tr2)).setCell ⟨gx, 9, none⟩ (.int .i64 lk2)) = w3 at *
            clear e2 ce2 fe2 c0 f0 c1 f1
            have cb3 := fun i => b3.cell i
            have fb3 := fun i => b3.frozen i
            obtain ⟨a', ha', _, z2⟩ := (HR.out.below B3).word hlt
            injection ha' with ha'
            subst ha'
            rw [hG] at z2
            go_wp2_with fail
            go_region_with ((first | (go_at_call 34; refine (T2.out _).mono ?_; rintro e wu ⟨rfl, hbu⟩; have b4 := b3.drew.below hbu b3.lt; have cb4 := fun i => b4.cell i; have fb4 := fun i => b4.frozen i)))
            all_goals
              have b5 := b4.put9 (.int .i64 s'') (.int .i64 t'') (.int .i64 f'') (.int .i64 l'') (.int .i64 p'') (.int .i64 k2) (.int .i64 sm2) (.int .u64 he2) (.int .i64 tq2)
              have e5 := (e3.drew.below hbu e3.lt).off9 (g := gy) hxy (.int .i64 s'') (.int .i64 t'') (.int .i64 f'') (.int .i64 l'') (.int .i64 p'') (.int .i64 k2) (.int .i64 sm2) (.int .u64 he2) (.int .i64 tq2)
              have x5 := (x3.drew.below hbu x3.lt).off9 (g := gy) hay (.int .i64 s'') (.int .i64 t'') (.int .i64 f'') (.int .i64 l'') (.int .i64 p'') (.int .i64 k2) (.int .i64 sm2) (.int .u64 he2) (.int .i64 tq2)
              have y5 := (y3.drew.below hbu y3.lt).off9 (g := gy) hby (.int .i64 s'') (.int .i64 t'') (.int .i64 f'') (.int .i64 l'') (.int .i64 p'') (.int .i64 k2) (.int .i64 sm2) (.int .u64 he2) (.int .i64 tq2)
              have B5 := below_put9 ((B3.drew).trans (hbu.mono B3.drew.size)) (g := gy) hgy (.int .i64 s'') (.int .i64 t'') (.int .i64 f'') (.int .i64 l'') (.int .i64 p'') (.int .i64 k2) (.int .i64 sm2) (.int .u64 he2) (.int .i64 tq2)
              generalize (((((((((wu.setCell ⟨gy, 0, none⟩ (.int .i64 s'')).setCell ⟨gy, 1, none⟩ (.int .i64 t'')).setCell ⟨gy, 2, none⟩ (.int .i64 f'')).setCell ⟨gy, 3, none⟩ (.int .i64 l'')).setCell ⟨gy, 4, none⟩ (.int .i64 p'')).setCell ⟨gy, 5, none⟩ (.int .i64 k2)).setCell ⟨gy, 6, none⟩ (.int .i64 sm2)).setCell ⟨gy, 7, none⟩ (.int .u64 he2)).setCell ⟨gy, 8, none⟩ (.int .i64 tq2)) = w5 at *
              clear b4 cb4 fb4 cb3 fb3
              go_wp2_with fail
              go_roundw
              case measure => simp [intOf]; omega
              case rel => exact ⟨k + 1, by go_num, by omega, by rw [Nx.out]; exact e5, by rw [Nu.out]; exact b5, x5, y5, B5⟩
        · obtain rfl : k = m := by omega
          clear hlt Ok Ok2 Tk Tu S0 U0 c0 f0 c1 f1
          generalize st k = x9 at *
          generalize ut k = y9 at *
          obtain ⟨q, sl, hd, tr, lk⟩ := x9
          obtain ⟨kq, sm, he, tq⟩ := y9
          simp only at ha hb' hx hy
          have Q1 := pp_eql s' t' f' l' p' sl hd tr lk q
          have Q2 := ps_eql s'' t'' f'' l'' p'' sm he tq kq
          have QA := sask_eql 0 0 0 0
          have bz := Blk.new wr 50 #[.int .i64 0, .int .i64 0, .int .i64 0, .int .i64 0, .int .i64 0, .int .i64 0, .int .i64 0, .int .u64 0, .int .i64 0, .int .i64 0]
          have la := ha.lt
          have lb := hb'.lt
          have lx := hx.lt
          have ly := hy.lt
          replace ha := ha.alloc (.cells #[.int .i64 0, .int .i64 0, .int .i64 0, .int .i64 0, .int .i64 0, .int .i64 0, .int .i64 0, .int .u64 0, .int .i64 0, .int .i64 0] 50)
          replace hb' := hb'.alloc (.cells #[.int .i64 0, .int .i64 0, .int .i64 0, .int .i64 0, .int .i64 0, .int .i64 0, .int .i64 0, .int .u64 0, .int .i64 0, .int .i64 0] 50)
          replace hx := hx.alloc (.cells #[.int .i64 0, .int .i64 0, .int .i64 0, .int .i64 0, .int .i64 0, .int .i64 0, .int .i64 0, .int .u64 0, .int .i64 0, .int .i64 0] 50)
          replace hy := hy.alloc (.cells #[.int .i64 0, .int .i64 0, .int .i64 0, .int .i64 0, .int .i64 0, .int .i64 0, .int .i64 0, .int .u64 0, .int .i64 0, .int .i64 0] 50)
          replace hb := hb.alloc hb.size (.cells #[.int .i64 0, .int .i64 0, .int .i64 0, .int .i64 0, .int .i64 0, .int .i64 0, .int .i64 0, .int .u64 0, .int .i64 0, .int .i64 0] 50)
          have bf := Blk.new (wr.alloc (.cells #[.int .i64 0, .int .i64 0, .int .i64 0, .int .i64 0, .int .i64 0, .int .i64 0, .int .i64 0, .int .u64 0, .int .i64 0, .int .i64 0] 50)) 70 #[.int .i64 0, .int .i64 0, .int .i64 0, .int .i64 0, .int .i64 0, .int .i64 0, .int .i64 0, .int .u64 0, .int .i64 0]
          rw [World.size_alloc] at bf
          replace ha := ha.alloc (.cells #[.int .i64 0, .int .i64 0, .int .i64 0, .int .i64 0, .int .i64 0, .int .i64 0, .int .i64 0, .int .u64 0, .int .i64 0] 70)
          replace hb' := hb'.alloc (.cells #[.int .i64 0, .int .i64 0, .int .i64 0, .int .i64 0, .int .i64 0, .int .i64 0, .int .i64 0, .int .u64 0, .int .i64 0] 70)
          replace hx := hx.alloc (.cells #[.int .i64 0, .int .i64 0, .int .i64 0, .int .i64 0, .int .i64 0, .int .i64 0, .int .i64 0, .int .u64 0, .int .i64 0] 70)
          replace hy := hy.alloc (.cells #[.int .i64 0, .int .i64 0, .int .i64 0, .int .i64 0, .int .i64 0, .int .i64 0, .int .i64 0, .int .u64 0, .int .i64 0] 70)
          replace hb := hb.alloc hb.size (.cells #[.int .i64 0, .int .i64 0, .int .i64 0, .int .i64 0, .int .i64 0, .int .i64 0, .int .i64 0, .int .u64 0, .int .i64 0] 70)
          replace bz := bz.alloc (.cells #[.int .i64 0, .int .i64 0, .int .i64 0, .int .i64 0, .int .i64 0, .int .i64 0, .int .i64 0, .int .u64 0, .int .i64 0] 70)
          have T0 := hide (fun w2 => ptook_0 0 0 0 0 0 0 0 0 0 5 w2)
          have D0 := hide (fun w2 => pdone_0 0 0 0 0 0 0 0 0 0 w2)
          have W0 := hide (fun w2 => pwant_0 0 0 0 0 0 0 0 0 0 w2)
          have T9 := hide (fun w2 => pstook_0 0 0 0 0 0 0 0 0 5 w2)
          have D9 := hide (fun w2 => psdone_0 0 0 0 0 0 0 0 0 w2)
          have W9 := hide (fun w2 => pswant_0 0 0 0 0 0 0 0 0 w2)
          go_wp2_with fail
          refine (T0.out _).mono ?_
          rintro e w4 ⟨rfl, hb1⟩
          replace bz := bz.below hb1 bz.lt
          replace bf := bf.below hb1 bf.lt
          replace ha := ha.below hb1 ha.lt
          replace hb' := hb'.below hb1 hb'.lt
          replace hx := hx.below hb1 hx.lt
          replace hy := hy.below hb1 hy.lt
          replace hb := hb.trans (hb1.mono hb.size)
          clear hb1
          try clear cz cf ca cb cx cy
          have cz := fun i => bz.cell i
          have cf := fun i => bf.cell i
          have ca := fun i => ha.cell i
          have cb := fun i => hb'.cell i
          have cx := fun i => hx.cell i
          have cy := fun i => hy.cell i
          go_wp2_with fail
          refine (D0.out _).mono ?_
          rintro e w5 ⟨rfl, hb1⟩
          replace bz := bz.below hb1 bz.lt
          replace bf := bf.below hb1 bf.lt
          replace ha := ha.below hb1 ha.lt
          replace hb' := hb'.below hb1 hb'.lt
          replace hx := hx.below hb1 hx.lt
          replace hy := hy.below hb1 hy.lt
          replace hb := hb.trans (hb1.mono hb.size)
          clear hb1
          try clear cz cf ca cb cx cy
          have cz := fun i => bz.cell i
          have cf := fun i => bf.cell i
          have ca := fun i => ha.cell i
          have cb := fun i => hb'.cell i
          have cx := fun i => hx.cell i
          have cy := fun i => hy.cell i
          go_wp2_with fail
          refine (T9.out _).mono ?_
          rintro e w6 ⟨rfl, hb1⟩
          replace bz := bz.below hb1 bz.lt
          replace bf := bf.below hb1 bf.lt
          replace ha := ha.below hb1 ha.lt
          replace hb' := hb'.below hb1 hb'.lt
          replace hx := hx.below hb1 hx.lt
          replace hy := hy.below hb1 hy.lt
          replace hb := hb.trans (hb1.mono hb.size)
          clear hb1
          try clear cz cf ca cb cx cy
          have cz := fun i => bz.cell i
          have cf := fun i => bf.cell i
          have ca := fun i => ha.cell i
          have cb := fun i => hb'.cell i
          have cx := fun i => hx.cell i
          have cy := fun i => hy.cell i
          go_wp2_with fail
          refine (D9.out _).mono ?_
          rintro e w7 ⟨rfl, hb1⟩
          replace bz := bz.below hb1 bz.lt
          replace bf := bf.below hb1 bf.lt
          replace ha := ha.below hb1 ha.lt
          replace hb' := hb'.below hb1 hb'.lt
          replace hx := hx.below hb1 hx.lt
          replace hy := hy.below hb1 hy.lt
          replace hb := hb.trans (hb1.mono hb.size)
          clear hb1
          try clear cz cf ca cb cx cy
          have cz := fun i => bz.cell i
          have cf := fun i => bf.cell i
          have ca := fun i => ha.cell i
          have cb := fun i => hb'.cell i
          have cx := fun i => hx.cell i
          have cy := fun i => hy.cell i
          go_wp2_with fail
          refine (W0.out _).mono ?_
          rintro e w8 ⟨rfl, hb1⟩
          replace bz := bz.below hb1 bz.lt
          replace bf := bf.below hb1 bf.lt
          replace ha := ha.below hb1 ha.lt
          replace hb' := hb'.below hb1 hb'.lt
          replace hx := hx.below hb1 hx.lt
          replace hy := hy.below hb1 hy.lt
          replace hb := hb.trans (hb1.mono hb.size)
          clear hb1
          try clear cz cf ca cb cx cy
          have cz := fun i => bz.cell i
          have cf := fun i => bf.cell i
          have ca := fun i => ha.cell i
          have cb := fun i => hb'.cell i
          have cx := fun i => hx.cell i
          have cy := fun i => hy.cell i
          go_wp2_with fail
          refine (W9.out _).mono ?_
          rintro e w9 ⟨rfl, hb1⟩
          replace bz := bz.below hb1 bz.lt
          replace bf := bf.below hb1 bf.lt
          replace ha := ha.below hb1 ha.lt
          replace hb' := hb'.below hb1 hb'.lt
          replace hx := hx.below hb1 hx.lt
          replace hy := hy.below hb1 hy.lt
          replace hb := hb.trans (hb1.mono hb.size)
          clear hb1
          try clear cz cf ca cb cx cy
          have cz := fun i => bz.cell i
          have cf := fun i => bf.cell i
          have ca := fun i => ha.cell i
          have cb := fun i => hb'.cell i
          have cx := fun i => hx.cell i
          have cy := fun i => hy.cell i
          go_wp2_with fail
          refine (Aw.out _ hb).mono ?_
          rintro e w9 ⟨rfl, hb9⟩
          go_wp2_with fail
          go_ret
          exact ⟨rfl, hb.trans (hb9.mono hb.size)⟩
end Go.Proofs.YthmkhcmgpkngmaaDoor
