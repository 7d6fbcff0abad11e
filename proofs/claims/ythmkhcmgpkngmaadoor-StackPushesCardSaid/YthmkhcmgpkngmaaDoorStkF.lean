/-
  Chapter 15's example (Pop); the Go function StackPops.
-/
import Derived.Test.YthmkhcmgpkngmaaDoorStkD
import Derived.Test.YthmkhcmgpkngmaaDoorWords
import Derived.Laws.StructEq
import Derived.Test.YthmkhcmgpkngmaaDoorLayH
import Derived.Deep.RegionHeld3
import Derived.Deep.RegionWith
namespace Go.Proofs.YthmkhcmgpkngmaaDoor
open Go.RowKit
attribute [local go_sem] past_cell past_cell_add

theorem sask_neq (k a o n : Int) (w : World) : (binOp .neq 39 (.agg #[.int .i64 k, .int .i64 a, .int .u64 o, .int .u64 n]) (.agg #[.int .i64 k, .int .i64 a, .int .u64 o, .int .u64 n])).run Tryd.prog w = .ok (.bool false) w := by
  have hs : Tryd.prog.stoodInHeld 39 = false := by kernel_rfl
  rw [run_neq_struct, show (10000 : Nat) = 9999 + 1 from rfl, run_equalIn_agg _ _ _ _ _ (by kernel_rfl) hs]
  simp [Program.fieldsOf, Tryd.underlying39, Tryd.underlying3, Tryd.underlying28, Op.eqFields, run_equalIn_int, go_sem]
theorem sask_eql (k a o n : Int) (w : World) : (binOp .eql 39 (.agg #[.int .i64 k, .int .i64 a, .int .u64 o, .int .u64 n]) (.agg #[.int .i64 k, .int .i64 a, .int .u64 o, .int .u64 n])).run Tryd.prog w = .ok (.bool true) w := by
  have hs : Tryd.prog.stoodInHeld 39 = false := by kernel_rfl
  rw [run_eql_struct, show (10000 : Nat) = 9999 + 1 from rfl, run_equalIn_agg _ _ _ _ _ (by kernel_rfl) hs]
  simp [Program.fieldsOf, Tryd.underlying39, Tryd.underlying3, Tryd.underlying28, Op.eqFields, run_equalIn_int, go_sem]
set_option maxRecDepth 100000 in
set_option maxHeartbeats 2000000 in
theorem awake15 (w : World) (hT : Tab w) : Calls Tryd.prog 20 #[] w fun e w' => e = .returned (.bool true) ∧ Below w.heap.size w w' := by
  have NL := hide (new_yes 3 1 4 1 1 w hT (by decide))
  have N := hide (fun w2 => pnew_yes 3 1 4 1 1 w2 (by omega) (by omega) (by omega))
  have T1 := hide (fun w2 => ptook_1y 3 1 4 1 1 0 0 0 0 2 w2 ⟨by omega, by omega⟩ (by omega) (by omega))
  rw [show ((2 : Int) % 65536) = 2 from rfl] at T1
  have T2 := hide (fun w2 => ptook_2y 3 1 4 1 1 2 2 0 0 3 w2 ⟨by omega, by omega⟩ (by omega) (by omega))
  have T3 := hide (fun w2 => ptook_3y 3 1 4 1 1 2 2 0 3 w2)
  have D := hide (fun w2 => pdone_0 3 1 4 1 1 2 2 0 3 w2)
  have W := hide (fun w2 => pwant_3 3 1 4 1 1 2 2 0 3 w2 (by omega) (by omega) (by omega) ⟨by omega, by omega⟩ (by omega))
  rw [show hturn 2 3 = 65539 by decide] at W
  have Q := sask_eql 3 2 2 65539
  go_enter Tryd.func20, Tryd.ntmps20
  go_wp2_with fail
  refine (NL.out).mono ?_
  rintro e w1 ⟨rfl, B0⟩
  go_wp2_with fail
  refine (N.out _).mono ?_
  rintro e w2 ⟨rfl, hb1⟩
  replace B0 := B0.trans (hb1.mono B0.size)
  clear hb1
  go_wp2_with fail
  refine (T1.out _).mono ?_
  rintro e w3 ⟨rfl, hb1⟩
  replace B0 := B0.trans (hb1.mono B0.size)
  clear hb1
  go_wp2_with fail
  refine (T2.out _).mono ?_
  rintro e w4 ⟨rfl, hb1⟩
  replace B0 := B0.trans (hb1.mono B0.size)
  clear hb1
  have bx := Blk.new w4 50 #[.int .i64 3, .int .i64 1, .int .i64 4, .int .i64 1, .int .i64 1, .int .i64 3, .int .i64 2, .int .u64 2, .int .i64 0, .int .i64 3]
  replace B0 := B0.alloc B0.size (.cells #[.int .i64 3, .int .i64 1, .int .i64 4, .int .i64 1, .int .i64 1, .int .i64 3, .int .i64 2, .int .u64 2, .int .i64 0, .int .i64 3] 50)
  go_wp2_with fail
  refine (T3.out _).mono ?_
  rintro e w5 ⟨rfl, hb1⟩
  replace bx := bx.below hb1 bx.lt
  replace B0 := B0.trans (hb1.mono B0.size)
  clear hb1
  try clear mx lx
  try clear mo lo zo
  try clear my ly zy
  try have mx := fun i => bx.cell i
  try have lx := bx.lt
  try have mo := fun i => bo.cell i
  try have lo := bo.lt
  try have zo := fun i => bo.frozen i
  try have my := fun i => by_.cell i
  try have ly := by_.lt
  try have zy := fun i => by_.frozen i
  go_wp2_with fail
  refine (D.out _).mono ?_
  rintro e w6 ⟨rfl, hb1⟩
  replace bx := bx.below hb1 bx.lt
  replace B0 := B0.trans (hb1.mono B0.size)
  clear hb1
  try clear mx lx
  try clear mo lo zo
  try clear my ly zy
  try have mx := fun i => bx.cell i
  try have lx := bx.lt
  try have mo := fun i => bo.cell i
  try have lo := bo.lt
  try have zo := fun i => bo.frozen i
  try have my := fun i => by_.cell i
  try have ly := by_.lt
  try have zy := fun i => by_.frozen i
  go_wp2_with fail
  refine (W.out _).mono ?_
  rintro e w8 ⟨rfl, hb1⟩
  replace B0 := B0.trans (hb1.mono B0.size)
  clear hb1 bx mx lx
  go_wp2_with fail
  go_ret
  exact ⟨rfl, B0⟩
def PpIn (n ge gr : Nat) (s t f l p s' t' f' l' p' : Int) (Y : Prop) (w : World) (i : Value) (wr : World) : Prop :=
  ∃ (k : Nat) (q sl hd tr lk : Int), i = .int .i64 k ∧ k ≤ n + 1 ∧ PpOk s' (q, sl, hd, tr, lk) ∧ (q = 0 ∨ Y) ∧ Blk wr ge 50 #[.int .i64 s', .int .i64 t', .int .i64 f', .int .i64 l', .int .i64 p', .int .i64 q, .int .i64 sl, .int .u64 hd, .int .i64 tr, .int .i64 lk] ∧ Blk wr gr 53 #[.int .i64 q, .int .u64 hd, .int .i64 sl, .int .i64 lk, .int .i64 tr] ∧ Blk wr w.heap.size 23 #[.int .i64 s, .int .i64 t, .int .i64 f, .int .i64 l, .int .i64 p] ∧ Below w.heap.size w wr
set_option maxRecDepth 100000 in
set_option maxHeartbeats 8000000 in
theorem pops15 (s t f l p s' t' f' l' p' q0 : Int) (A : Option Addr) (n c : Nat) (l0 : List Int) (w : World) (Y : Prop) (hT : Tab w) (hn : n ≤ 60) (hr : Reads w w.heap.size 1 A n (ints .u64 l0)) (hw : ∀ y ∈ l0, W64 y)
    (hY : Y → ((1 ≤ s' ∧ s' ≤ 1000) ∧ (1 ≤ t' ∧ t' ≤ 64) ∧ (4 ≤ f' ∧ f' ≤ 64)) ∧ s' = s ∧ t' = t ∧ f' = f ∧ l' = l ∧ p' = p) (hok : PpOk s' (q0, 0, 0, 0, 0)) (hj : q0 = 0 ∨ Y)
    (NL : ∀ w2, Below w.heap.size w w2 → Calls Tryd.prog 11 #[.agg #[.int .i64 s, .int .i64 t, .int .i64 f, .int .i64 l, .int .i64 p]] w2 fun e w' => e = .returned (.agg #[.int .i64 s', .int .i64 t', .int .i64 f', .int .i64 l', .int .i64 p']) ∧ Below w2.heap.size w2 w')
    (N : ∀ w2, Calls Tryd.prog 21 #[.agg #[.int .i64 s', .int .i64 t', .int .i64 f', .int .i64 l', .int .i64 p']] w2 fun e w' => e = .returned (.agg #[.int .i64 s', .int .i64 t', .int .i64 f', .int .i64 l', .int .i64 p', .int .i64 q0, .int .i64 0, .int .u64 0, .int .i64 0, .int .i64 0]) ∧ Below w2.heap.size w2 w')
    (RN : ∀ w2, Calls Tryd.prog 22 #[.agg #[.int .i64 s, .int .i64 t, .int .i64 f, .int .i64 l, .int .i64 p]] w2 fun e w' => e = .returned (.agg #[.int .i64 q0, .int .u64 0, .int .i64 0, .int .i64 0, .int .i64 0]) ∧ Below w2.heap.size w2 w') :
    Calls Tryd.prog 5 #[.agg #[.int .i64 s, .int .i64 t, .int .i64 f, .int .i64 l, .int .i64 p], .slice A n c] w fun e w' => e = .returned (.bool true) ∧ Below w.heap.size w w' := by
  have HR := hide hr
  have HW := hide hw
  have HL := hide hr.lenWord
  have Aw := hide (fun w2 (hb : Below w.heap.size w w2) => awake15 w2 (hT.below hb))
  clear hr hw
  have bx := Blk.new w 23 #[.int .i64 s, .int .i64 t, .int .i64 f, .int .i64 l, .int .i64 p]
  have B0 := (Below.refl w.heap.size w).alloc (Nat.le_refl _) (.cells #[.int .i64 s, .int .i64 t, .int .i64 f, .int .i64 l, .int .i64 p] 23)
  have NL' := hide NL
  have N' := hide N
  have RN' := hide RN
  have HY := hide hY
  have OK0 := hide hok
  have HJ := hide hj
  clear NL N RN hY hok hj
  go_enter Tryd.func5, Tryd.ntmps5
  go_wp2_with fail
  refine (NL'.out _ B0).mono ?_
  rintro e w1 ⟨rfl, hb1⟩
  try replace bx := bx.below hb1 bx.lt
  try replace bo := bo.below hb1 bo.lt
  try replace by_ := by_.below hb1 by_.lt
  replace B0 := B0.trans (hb1.mono B0.size)
  clear hb1
  try clear mx lx
  try clear mo lo zo
  try clear my ly zy
  try have mx := fun i => bx.cell i
  try have lx := bx.lt
  try have mo := fun i => bo.cell i
  try have lo := bo.lt
  try have zo := fun i => bo.frozen i
  try have my := fun i => by_.cell i
  try have ly := by_.lt
  try have zy := fun i => by_.frozen i
  go_wp2_with fail
  refine (N'.out _).mono ?_
  rintro e w2 ⟨rfl, hb1⟩
  replace bx := bx.below hb1 bx.lt
  replace B0 := B0.trans (hb1.mono B0.size)
  clear hb1
  have be := Blk.new w2 50 #[.int .i64 s', .int .i64 t', .int .i64 f', .int .i64 l', .int .i64 p', .int .i64 q0, .int .i64 0, .int .u64 0, .int .i64 0, .int .i64 0]
  have hge : w.heap.size ≤ w2.heap.size := B0.size
  have hge' : w.heap.size ≠ w2.heap.size := by have := bx.lt; omega
  replace bx := bx.alloc (.cells #[.int .i64 s', .int .i64 t', .int .i64 f', .int .i64 l', .int .i64 p', .int .i64 q0, .int .i64 0, .int .u64 0, .int .i64 0, .int .i64 0] 50)
  replace B0 := B0.alloc B0.size (.cells #[.int .i64 s', .int .i64 t', .int .i64 f', .int .i64 l', .int .i64 p', .int .i64 q0, .int .i64 0, .int .u64 0, .int .i64 0, .int .i64 0] 50)
  try clear mx lx
  try clear mo lo zo
  try clear my ly zy
  try have mx := fun i => bx.cell i
  try have lx := bx.lt
  try have mo := fun i => bo.cell i
  try have lo := bo.lt
  try have zo := fun i => bo.frozen i
  try have my := fun i => by_.cell i
  try have ly := by_.lt
  try have zy := fun i => by_.frozen i
  go_wp2_with fail
  generalize w2.heap.size = ge at *
  refine (RN'.out _).mono ?_
  rintro e w3 ⟨rfl, hb1⟩
  replace bx := bx.below hb1 bx.lt
  replace be := be.below hb1 be.lt
  replace B0 := B0.trans (hb1.mono B0.size)
  clear hb1
  have br := Blk.new w3 53 #[.int .i64 q0, .int .u64 0, .int .i64 0, .int .i64 0, .int .i64 0]
  have hgr : w.heap.size ≤ w3.heap.size := B0.size
  have hgr' : w.heap.size ≠ w3.heap.size := by have := bx.lt; omega
  have hne : ge ≠ w3.heap.size := by have := be.lt; omega
  replace bx := bx.alloc (.cells #[.int .i64 q0, .int .u64 0, .int .i64 0, .int .i64 0, .int .i64 0] 53)
  replace be := be.alloc (.cells #[.int .i64 q0, .int .u64 0, .int .i64 0, .int .i64 0, .int .i64 0] 53)
  replace B0 := B0.alloc B0.size (.cells #[.int .i64 q0, .int .u64 0, .int .i64 0, .int .i64 0, .int .i64 0] 53)
  try clear mx lx
  try clear mo lo zo
  try clear my ly zy
  try have mx := fun i => bx.cell i
  try have lx := bx.lt
  try have mo := fun i => bo.cell i
  try have lo := bo.lt
  try have zo := fun i => bo.frozen i
  try have my := fun i => by_.cell i
  try have ly := by_.lt
  try have zy := fun i => by_.frozen i
  go_wp2_with fail
  generalize w3.heap.size = gr at *
  generalize w3.alloc (.cells #[.int .i64 q0, .int .u64 0, .int .i64 0, .int .i64 0, .int .i64 0] 53) = w4 at *
  clear mx lx NL' N' RN'
  go_loopw [7] (PpIn n ge gr s t f l p s' t' f' l' p' Y w) (fun i _ => n + 2 - (intOf i).toNat)
  case atStart => exact ⟨0, q0, 0, 0, 0, 0, rfl, by omega, OK0.out, HJ.out, be, br, bx, B0⟩
  case round =>
    clear be br bx B0
    obtain ⟨k, q, sl, hd, tr, lk, rfl, hk, hok, hj, he, hr, hx, hb⟩ := hrel
    by_cases hkn1 : k ≤ n
    · have hkz : (k : Int) ≤ (n : Int) := by omega
      have ce := fun i => he.cell i
      have le := he.lt
      have cr := fun i => hr.cell i
      have lr := hr.lt
      by_cases c0 : q = 0
      · subst c0
        have OK := hide hok
        have J : Hid ((0 : Int) = 0 ∨ Y) := hide (.inl rfl)
        clear hok hj cr lr
        have D := hide (fun w2 => pdone_0 s' t' f' l' p' sl hd tr lk w2)
        have W1 := hide (fun w2 => pwant_0 s' t' f' l' p' sl hd tr lk w2)
        have W2 := hide (fun w2 => rpwant_0 s t f l p sl hd tr lk w2)
        have W3 := hide (fun w2 => ptries_any s' t' f' l' p' sl hd tr lk 0 w2)
        have Q := sask_neq 0 0 0 0
        go_wp2_with fail
        refine (D.out _).mono ?_
        rintro e wd ⟨rfl, hbd⟩
        replace he := he.below hbd he.lt
        replace hr := hr.below hbd hr.lt
        replace hx := hx.below hbd hx.lt
        replace hb := hb.trans (hbd.mono hb.size)
        clear hbd ce le
        have ce := fun i => he.cell i
        have cr := fun i => hr.cell i
        have cx := fun i => hx.cell i
        have le := he.lt
        have lr := hr.lt
        have lx := hx.lt
        go_wp2_with fail
        refine wp_region_past (by kernel_rfl) (by kernel_rfl) ?_
        repeat (quiet_step ((first | (go_at_call 24; exact calls_past (W1.out _)) | (go_at_call 25; exact calls_past (W2.out _)) | (go_at_call 26; exact calls_past (W3.out _)))))
        refine wpQuiet_nil ?_
        intro _ hw'
        obtain ⟨y, hw''⟩ := hw'
        subst hw''
        have hy := past_below wd y
        generalize past wd y = wp at *
        have he := he.below hy he.lt
        have hr := hr.below hy hr.lt
        have hx := hx.below hy hx.lt
        have hb := hb.trans (hy.mono hb.size)
        clear hy Q W1 W2 W3 D
        have ce := fun i => he.cell i
        have cr := fun i => hr.cell i
        have cx := fun i => hx.cell i
        have fe := fun i => he.frozen i
        have fr := fun i => hr.frozen i
        by_cases hlt : k < n
        · obtain ⟨a, rfl, hkl, z1⟩ := (HR.out.below hb).word hlt
          have hg := HW.out _ (List.getElem_mem hkl)
          have T1 := hide (fun w2 => ptook_0 s' t' f' l' p' sl hd tr lk l0[k] w2)
          have T2 := hide (fun w2 => rptook_0 s t f l p sl hd tr lk l0[k] w2)
          have OK2 := OK
          have J2 := J
          generalize hG : l0[k] = g at *
          have hkn : (k : Int) < (n : Int) := by omega
          go_wp2_with fail
          go_region_with ((first | (go_at_call 27; refine (T1.out _).mono ?_; rintro e wt ⟨rfl, hbt⟩; have e2 := he.drew.below hbt he.lt; have ce2 := fun i => e2.cell i; have fe2 := fun i => e2.frozen i)))
          all_goals
            have e3 := e2.put10 (.int .i64 s') (.int .i64 t') (.int .i64 f') (.int .i64 l') (.int .i64 p') (.int .i64 0) (.int .i64 sl) (.int .u64 hd) (.int .i64 tr) (.int .i64 lk)
            have r3 := (hr.drew.below hbt hr.lt).off10 (g := ge) (Ne.symm hne) (.int .i64 s') (.int .i64 t') (.int .i64 f') (.int .i64 l') (.int .i64 p') (.int .i64 0) (.int .i64 sl) (.int .u64 hd) (.int .i64 tr) (.int .i64 lk)
            have x3 := (hx.drew.below hbt hx.lt).off10 (g := ge) hge' (.int .i64 s') (.int .i64 t') (.int .i64 f') (.int .i64 l') (.int .i64 p') (.int .i64 0) (.int .i64 sl) (.int .u64 hd) (.int .i64 tr) (.int .i64 lk)
            have B3 := below_put10 ((hb.drew).trans (hbt.mono hb.drew.size)) (g := ge) hge (.int .i64 s') (.int .i64 t') (.int .i64 f') (.int .i64 l') (.int .i64 p') (.int .i64 0) (.int .i64 sl) (.int .u64 hd) (.int .i64 tr) (.int .i64 lk)
            generalize ((((((((((wt.setCell ⟨ge, 0, none⟩ (.int .i64 s')).setCell ⟨ge, 1, none⟩ (.int .i64 t')).setCell ⟨ge, 2, none⟩ (.int .i64 f')).setCell ⟨ge, 3, none⟩ (.int .i64 l')).setCell ⟨ge, 4, none⟩ (.int .i64 p')).setCell ⟨ge, 5, none⟩ (.int .i64 0)).setCell ⟨ge, 6, none⟩ (.int .i64 sl)).setCell ⟨ge, 7, none⟩ (.int .u64 hd)).setCell ⟨ge, 8, none⟩ (.int .i64 tr)).setCell ⟨ge, 9, none⟩ (.int .i64 lk)) = w3 at *
            clear e2 ce2 fe2 ce cr fe fr cx
            have ce3 := fun i => e3.cell i
            have cr3 := fun i => r3.cell i
            have cx3 := fun i => x3.cell i
            have fr3 := fun i => r3.frozen i
            obtain ⟨a', ha', _, z2⟩ := (HR.out.below B3).word hlt
            injection ha' with ha'
            subst ha'
            rw [hG] at z2
            go_wp2_with fail
            go_region_with ((first | (go_at_call 28; refine (T2.out _).mono ?_; rintro e wu ⟨rfl, hbu⟩; have r4 := r3.drew.below hbu r3.lt; have cr4 := fun i => r4.cell i; have fr4 := fun i => r4.frozen i)))
            all_goals
              have r5 := r4.put5 (.int .i64 0) (.int .u64 hd) (.int .i64 sl) (.int .i64 lk) (.int .i64 tr)
              have e5 := (e3.drew.below hbu e3.lt).off5 (g := gr) hne (.int .i64 0) (.int .u64 hd) (.int .i64 sl) (.int .i64 lk) (.int .i64 tr)
              have x5 := (x3.drew.below hbu x3.lt).off5 (g := gr) hgr' (.int .i64 0) (.int .u64 hd) (.int .i64 sl) (.int .i64 lk) (.int .i64 tr)
              have B5 := below_put5 ((B3.drew).trans (hbu.mono B3.drew.size)) (g := gr) hgr (.int .i64 0) (.int .u64 hd) (.int .i64 sl) (.int .i64 lk) (.int .i64 tr)
              generalize (((((wu.setCell ⟨gr, 0, none⟩ (.int .i64 0)).setCell ⟨gr, 1, none⟩ (.int .u64 hd)).setCell ⟨gr, 2, none⟩ (.int .i64 sl)).setCell ⟨gr, 3, none⟩ (.int .i64 lk)).setCell ⟨gr, 4, none⟩ (.int .i64 tr)) = w5 at *
              clear r4 cr4 fr4 ce3 cr3 fr3 cx3
              go_wp2_with fail
              go_roundw
              case measure => simp [intOf]; omega
              case rel => exact ⟨k + 1, 0, sl, hd, tr, lk, by go_num, by omega, OK2.out, by first | exact .inl rfl | exact J2.out, e5, r5, x5, B5⟩
        · obtain rfl : k = n := by omega
          have hkn : ¬ ((k : Int) < (k : Int)) := by omega
          go_wp2_with fail
          go_roundw
          case measure => (simp [intOf] <;> omega)
          case rel => exact ⟨k + 1, 0, sl, hd, tr, lk, by go_num, by omega, OK.out, by first | exact .inl rfl | exact J.out, he, hr, hx, hb⟩
      · have HYY := hide (hj.resolve_left c0)
        obtain ⟨Yh, rfl, rfl, rfl, rfl, rfl⟩ := HY.out HYY.out
        have hq : (q == 0) = false := by simpa using c0
        have OK := hide hok
        have J : Hid (q = 0 ∨ Y) := hide hj
        clear hok hj cr lr
        have D := hide (fun w2 => pdone_1 s' t' f' l' p' sl hd tr lk q w2 hq)
        have W1 := hide (fun w2 => pwant_any s' t' f' l' p' (q, sl, hd, tr, lk) w2 OK.out (.inr Yh))
        have W2 := hide (fun w2 => rpwant_any s' t' f' l' p' (q, sl, hd, tr, lk) w2 OK.out (.inr Yh))
        have W3 := hide (fun w2 => ptries_any s' t' f' l' p' sl hd tr lk q w2)
        simp only [ppV, rppV] at W1 W2
        generalize pAsk t' f' (q, sl, hd, tr, lk) = a at *
        obtain ⟨a1, a2, a3, a4⟩ := a
        simp only at W1 W2
        have Q := sask_neq a1 a2 a3 a4
        go_wp2_with fail
        refine (D.out _).mono ?_
        rintro e wd ⟨rfl, hbd⟩
        replace he := he.below hbd he.lt
        replace hr := hr.below hbd hr.lt
        replace hx := hx.below hbd hx.lt
        replace hb := hb.trans (hbd.mono hb.size)
        clear hbd ce le
        have ce := fun i => he.cell i
        have cr := fun i => hr.cell i
        have cx := fun i => hx.cell i
        have le := he.lt
        have lr := hr.lt
        have lx := hx.lt
        go_wp2_with fail
        refine wp_region_past (by kernel_rfl) (by kernel_rfl) ?_
        repeat (quiet_step ((first | (go_at_call 24; exact calls_past (W1.out _)) | (go_at_call 25; exact calls_past (W2.out _)) | (go_at_call 26; exact calls_past (W3.out _)))))
        refine wpQuiet_nil ?_
        intro _ hw'
        obtain ⟨y, hw''⟩ := hw'
        subst hw''
        have hy := past_below wd y
        generalize past wd y = wp at *
        have he := he.below hy he.lt
        have hr := hr.below hy hr.lt
        have hx := hx.below hy hx.lt
        have hb := hb.trans (hy.mono hb.size)
        clear hy Q W1 W2 W3 D
        have ce := fun i => he.cell i
        have cr := fun i => hr.cell i
        have cx := fun i => hx.cell i
        have fe := fun i => he.frozen i
        have fr := fun i => hr.frozen i
        by_cases hlt : k < n
        · obtain ⟨a, rfl, hkl, z1⟩ := (HR.out.below hb).word hlt
          have hg := HW.out _ (List.getElem_mem hkl)
          have T1 := hide (fun w2 => ptook_any s' t' f' l' p' l0[k] (q, sl, hd, tr, lk) w2 OK.out hg (.inr Yh.1))
          have T2 := hide (fun w2 => rptook_any s' t' f' l' p' l0[k] (q, sl, hd, tr, lk) w2 OK.out hg (.inr Yh.1))
          have OK2 := hide (pTook_ok OK.out hg (.inr Yh.1.2))
          simp only [ppV, rppV] at T1 T2
          generalize pTook s' (q, sl, hd, tr, lk) l0[k] = x2 at *
          obtain ⟨q2, sl2, hd2, tr2, lk2⟩ := x2
          simp only at T1 T2
          have J2 : Hid (q2 = 0 ∨ Y) := hide (.inr HYY.out)
          generalize hG : l0[k] = g at *
          have hkn : (k : Int) < (n : Int) := by omega
          go_wp2_with fail
          go_region_with ((first | (go_at_call 27; refine (T1.out _).mono ?_; rintro e wt ⟨rfl, hbt⟩; have e2 := he.drew.below hbt he.lt; have ce2 := fun i => e2.cell i; have fe2 := fun i => e2.frozen i)))
          all_goals
            have e3 := e2.put10 (.int .i64 s') (.int .i64 t') (.int .i64 f') (.int .i64 l') (.int .i64 p') (.int .i64 q2) (.int .i64 sl2) (.int .u64 hd2) (.int .i64 tr2) (.int .i64 lk2)
            have r3 := (hr.drew.below hbt hr.lt).off10 (g := ge) (Ne.symm hne) (.int .i64 s') (.int .i64 t') (.int .i64 f') (.int .i64 l') (.int .i64 p') (.int .i64 q2) (.int .i64 sl2) (.int .u64 hd2) (.int .i64 tr2) (.int .i64 lk2)
            have x3 := (hx.drew.below hbt hx.lt).off10 (g := ge) hge' (.int .i64 s') (.int .i64 t') (.int .i64 f') (.int .i64 l') (.int .i64 p') (.int .i64 q2) (.int .i64 sl2) (.int .u64 hd2) (.int .i64 tr2) (.int .i64 lk2)
            have B3 := below_put10 ((hb.drew).trans (hbt.mono hb.drew.size)) (g := ge) hge (.int .i64 s') (.int .i64 t') (.int .i64 f') (.int .i64 l') (.int .i64 p') (.int .i64 q2) (.int .i64 sl2) (.int .u64 hd2) (.int .i64 tr2) (.int .i64 lk2)
            generalize ((((((((((wt.setCell ⟨ge, 0, none⟩ (.int .i64 s')).setCell ⟨ge, 1, none⟩ (.int .i64 t')).setCell ⟨ge, 2, none⟩ (.int .i64 f')).setCell ⟨ge, 3, none⟩ (.int .i64 l')).setCell ⟨ge, 4, none⟩ (.int .i64 p')).setCell ⟨ge, 5, none⟩ (.int .i64 q2)).setCell ⟨ge, 6, none⟩ (.int .i64 sl2)).setCell ⟨ge, 7, none⟩ (.int .u64 hd2)).setCell ⟨ge, 8, none⟩ (.int .i64 tr2)).setCell ⟨ge, 9, none⟩ (.int .i64 lk2)) = w3 at *
            clear e2 ce2 fe2 ce cr fe fr cx
            have ce3 := fun i => e3.cell i
            have cr3 := fun i => r3.cell i
            have cx3 := fun i => x3.cell i
            have fr3 := fun i => r3.frozen i
            obtain ⟨a', ha', _, z2⟩ := (HR.out.below B3).word hlt
            injection ha' with ha'
            subst ha'
            rw [hG] at z2
            go_wp2_with fail
            go_region_with ((first | (go_at_call 28; refine (T2.out _).mono ?_; rintro e wu ⟨rfl, hbu⟩; have r4 := r3.drew.below hbu r3.lt; have cr4 := fun i => r4.cell i; have fr4 := fun i => r4.frozen i)))
            all_goals
              have r5 := r4.put5 (.int .i64 q2) (.int .u64 hd2) (.int .i64 sl2) (.int .i64 lk2) (.int .i64 tr2)
              have e5 := (e3.drew.below hbu e3.lt).off5 (g := gr) hne (.int .i64 q2) (.int .u64 hd2) (.int .i64 sl2) (.int .i64 lk2) (.int .i64 tr2)
              have x5 := (x3.drew.below hbu x3.lt).off5 (g := gr) hgr' (.int .i64 q2) (.int .u64 hd2) (.int .i64 sl2) (.int .i64 lk2) (.int .i64 tr2)
              have B5 := below_put5 ((B3.drew).trans (hbu.mono B3.drew.size)) (g := gr) hgr (.int .i64 q2) (.int .u64 hd2) (.int .i64 sl2) (.int .i64 lk2) (.int .i64 tr2)
              generalize (((((wu.setCell ⟨gr, 0, none⟩ (.int .i64 q2)).setCell ⟨gr, 1, none⟩ (.int .u64 hd2)).setCell ⟨gr, 2, none⟩ (.int .i64 sl2)).setCell ⟨gr, 3, none⟩ (.int .i64 lk2)).setCell ⟨gr, 4, none⟩ (.int .i64 tr2)) = w5 at *
              clear r4 cr4 fr4 ce3 cr3 fr3 cx3
              go_wp2_with fail
              go_roundw
              case measure => simp [intOf]; omega
              case rel => exact ⟨k + 1, q2, sl2, hd2, tr2, lk2, by go_num, by omega, OK2.out, by first | exact .inl rfl | exact J2.out, e5, r5, x5, B5⟩
        · obtain rfl : k = n := by omega
          have hkn : ¬ ((k : Int) < (k : Int)) := by omega
          go_wp2_with fail
          go_roundw
          case measure => (simp [intOf] <;> omega)
          case rel => exact ⟨k + 1, q, sl, hd, tr, lk, by go_num, by omega, OK.out, by first | exact .inl rfl | exact J.out, he, hr, hx, hb⟩
    · obtain rfl : k = n + 1 := by omega
      have hkz : ¬ (((n + 1 : Nat) : Int) ≤ (n : Int)) := by omega
      have HB := hide hb
      clear he hr hx hb hok hj
      go_wp2_with fail
      refine (Aw.out _ HB.out).mono ?_
      rintro e w9 ⟨rfl, hb9⟩
      go_wp2_with fail
      go_ret
      exact ⟨rfl, HB.out.trans (hb9.mono HB.out.size)⟩
end Go.Proofs.YthmkhcmgpkngmaaDoor
