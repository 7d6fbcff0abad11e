/-
  The Go function StackPushes.
-/
import Derived.Test.YthmkhcmgpkngmaaDoorStkF
import Derived.Test.YthmkhcmgpkngmaaDoorPshB
import Derived.Test.YthmkhcmgpkngmaaDoorWords
import Derived.Test.YthmkhcmgpkngmaaDoorLayH
import Derived.Deep.RegionHeld3
import Derived.Deep.RegionWith
namespace Go.Proofs.YthmkhcmgpkngmaaDoor
open Go.RowKit
attribute [local go_sem] past_cell past_cell_add

def PsLp (n ge gr : Nat) (s t f l p s' t' f' l' p' : Int) (Y : Prop) (w : World) (i : Value) (wr : World) : Prop :=
  ∃ (k : Nat) (q sl hd tr : Int), i = .int .i64 k ∧ k ≤ n + 1 ∧ PsIn s' (q, sl, hd, tr) ∧ (q = 0 ∨ Y) ∧ Blk wr ge 70 #[.int .i64 s', .int .i64 t', .int .i64 f', .int .i64 l', .int .i64 p', .int .i64 q, .int .i64 sl, .int .u64 hd, .int .i64 tr] ∧ Blk wr gr 75 #[.int .i64 q, .int .u64 hd, .int .i64 sl, .int .i64 tr] ∧ Blk wr w.heap.size 23 #[.int .i64 s, .int .i64 t, .int .i64 f, .int .i64 l, .int .i64 p] ∧ Below w.heap.size w wr
set_option maxRecDepth 100000 in
set_option maxHeartbeats 8000000 in
theorem pushes15 (s t f l p n0 s' t' f' l' p' s1 t1 f1 l1 p1 q0 sl0 : Int) (A : Option Addr) (n c : Nat) (l0 : List Int) (w : World) (Y : Prop) (hT : Tab w) (hn : n ≤ 60) (hr : Reads w w.heap.size 1 A n (ints .u64 l0)) (hw : ∀ y ∈ l0, W64 y)
    (hY : Y → ((1 ≤ s' ∧ s' ≤ 1000) ∧ (1 ≤ t' ∧ t' ≤ 64) ∧ (4 ≤ f' ∧ f' ≤ 64)) ∧ s' = s ∧ t' = t ∧ f' = f ∧ l' = l ∧ p' = p) (hok : PsIn s' (q0, sl0, 0, 0)) (hj : q0 = 0 ∨ Y)
    (NL : ∀ w2, Below w.heap.size w w2 → Calls Tryd.prog 11 #[.agg #[.int .i64 s, .int .i64 t, .int .i64 f, .int .i64 l, .int .i64 p]] w2 fun e w' => e = .returned (.agg #[.int .i64 s1, .int .i64 t1, .int .i64 f1, .int .i64 l1, .int .i64 p1]) ∧ Below w2.heap.size w2 w')
    (N : ∀ w2, Calls Tryd.prog 33 #[.agg #[.int .i64 s1, .int .i64 t1, .int .i64 f1, .int .i64 l1, .int .i64 p1], .int .i64 n0] w2 fun e w' => e = .returned (.agg #[.int .i64 s', .int .i64 t', .int .i64 f', .int .i64 l', .int .i64 p', .int .i64 q0, .int .i64 sl0, .int .u64 0, .int .i64 0]) ∧ Below w2.heap.size w2 w')
    (RN : ∀ w2, Calls Tryd.prog 37 #[.agg #[.int .i64 s, .int .i64 t, .int .i64 f, .int .i64 l, .int .i64 p], .int .i64 n0] w2 fun e w' => e = .returned (.agg #[.int .i64 q0, .int .u64 0, .int .i64 sl0, .int .i64 0]) ∧ Below w2.heap.size w2 w') :
    Calls Tryd.prog 8 #[.agg #[.int .i64 s, .int .i64 t, .int .i64 f, .int .i64 l, .int .i64 p], .int .i64 n0, .slice A n c] w fun e w' => e = .returned (.bool true) ∧ Below w.heap.size w w' := by
  have HR := hide hr
  have HW := hide hw
  have HL := hide hr.lenWord
  have Aw := hide (fun w2 (hb : Below w.heap.size w w2) => awake15 w2 (hT.below hb))
  clear hr hw
  have bx := Blk.new w 23 #[.int .i64 s, .int .i64 t, .int .i64 f, .int .i64 l, .int .i64 p]
  have B0 := (Below.refl w.heap.size w).alloc (Nat.le_refl _) (.cells #[.int .i64 s, .int .i64 t, .int .i64 f, .int .i64 l, .int .i64 p] 23)
  have NL' := hide NL
  have N' := hide N
  have RN' := hide RN
  have HY := hide hY
  have OK0 := hide hok
  have HJ := hide hj
  clear NL N RN hY hok hj
  go_enter Tryd.func8, Tryd.ntmps8
  go_wp2_with fail
  refine (NL'.out _ B0).mono ?_
  rintro e w1 ⟨rfl, hb1⟩
  try replace bx := bx.below hb1 bx.lt
  try replace bo := bo.below hb1 bo.lt
  try replace by_ := by_.below hb1 by_.lt
  replace B0 := B0.trans (hb1.mono B0.size)
  clear hb1
  try clear mx lx
  try clear mo lo zo
  try clear my ly zy
  try have mx := fun i => bx.cell i
  try have lx := bx.lt
  try have mo := fun i => bo.cell i
  try have lo := bo.lt
  try have zo := fun i => bo.frozen i
  try have my := fun i => by_.cell i
  try have ly := by_.lt
  try have zy := fun i => by_.frozen i
  go_wp2_with fail
  refine (N'.out _).mono ?_
  rintro e w2 ⟨rfl, hb1⟩
  replace bx := bx.below hb1 bx.lt
  replace B0 := B0.trans (hb1.mono B0.size)
  clear hb1
  have be := Blk.new w2 70 #[.int .i64 s', .int .i64 t', .int .i64 f', .int .i64 l', .int .i64 p', .int .i64 q0, .int .i64 sl0, .int .u64 0, .int .i64 0]
  have hge : w.heap.size ≤ w2.heap.size := B0.size
  have hge' : w.heap.size ≠ w2.heap.size := by have := bx.lt; omega
  replace bx := bx.alloc (.cells #[.int .i64 s', .int .i64 t', .int .i64 f', .int .i64 l', .int .i64 p', .int .i64 q0, .int .i64 sl0, .int .u64 0, .int .i64 0] 70)
  replace B0 := B0.alloc B0.size (.cells #[.int .i64 s', .int .i64 t', .int .i64 f', .int .i64 l', .int .i64 p', .int .i64 q0, .int .i64 sl0, .int .u64 0, .int .i64 0] 70)
  try clear mx lx
  try clear mo lo zo
  try clear my ly zy
  try have mx := fun i => bx.cell i
  try have lx := bx.lt
  try have mo := fun i => bo.cell i
  try have lo := bo.lt
  try have zo := fun i => bo.frozen i
  try have my := fun i => by_.cell i
  try have ly := by_.lt
  try have zy := fun i => by_.frozen i
  go_wp2_with fail
  generalize w2.heap.size = ge at *
  refine (RN'.out _).mono ?_
  rintro e w3 ⟨rfl, hb1⟩
  replace bx := bx.below hb1 bx.lt
  replace be := be.below hb1 be.lt
  replace B0 := B0.trans (hb1.mono B0.size)
  clear hb1
  have br := Blk.new w3 75 #[.int .i64 q0, .int .u64 0, .int .i64 sl0, .int .i64 0]
  have hgr : w.heap.size ≤ w3.heap.size := B0.size
  have hgr' : w.heap.size ≠ w3.heap.size := by have := bx.lt; omega
  have hne : ge ≠ w3.heap.size := by have := be.lt; omega
  replace bx := bx.alloc (.cells #[.int .i64 q0, .int .u64 0, .int .i64 sl0, .int .i64 0] 75)
  replace be := be.alloc (.cells #[.int .i64 q0, .int .u64 0, .int .i64 sl0, .int .i64 0] 75)
  replace B0 := B0.alloc B0.size (.cells #[.int .i64 q0, .int .u64 0, .int .i64 sl0, .int .i64 0] 75)
  try clear mx lx
  try clear mo lo zo
  try clear my ly zy
  try have mx := fun i => bx.cell i
  try have lx := bx.lt
  try have mo := fun i => bo.cell i
  try have lo := bo.lt
  try have zo := fun i => bo.frozen i
  try have my := fun i => by_.cell i
  try have ly := by_.lt
  try have zy := fun i => by_.frozen i
  go_wp2_with fail
  generalize w3.heap.size = gr at *
  generalize w3.alloc (.cells #[.int .i64 q0, .int .u64 0, .int .i64 sl0, .int .i64 0] 75) = w4 at *
  clear mx lx NL' N' RN'
  go_loopw [9] (PsLp n ge gr s t f l p s' t' f' l' p' Y w) (fun i _ => n + 2 - (intOf i).toNat)
  case atStart => exact ⟨0, q0, sl0, 0, 0, rfl, by omega, OK0.out, HJ.out, be, br, bx, B0⟩
  case round =>
    clear be br bx B0
    obtain ⟨k, q, sl, hd, tr, rfl, hk, hok, hj, he, hr, hx, hb⟩ := hrel
    by_cases hkn1 : k ≤ n
    · have hkz : (k : Int) ≤ (n : Int) := by omega
      have ce := fun i => he.cell i
      have cr := fun i => hr.cell i
      have cx := fun i => hx.cell i
      have le := he.lt
      have lr := hr.lt
      have lx := hx.lt
      by_cases c0 : q = 0
      · subst c0
        have OK := hide hok
        have J : Hid ((0 : Int) = 0 ∨ Y) := hide (.inl rfl)
        clear hok hj
        have D := hide (fun w2 => psdone_0 s' t' f' l' p' sl hd tr w2)
        have W1 := hide (fun w2 => pswant_0 s' t' f' l' p' sl hd tr w2)
        have W2 := hide (fun w2 => rswant_0 s t f l p sl hd tr w2)
        have W3 := hide (fun w2 => pstries_any s' t' f' l' p' sl hd tr 0 w2)
        have Q := sask_neq 0 0 0 0
        go_wp2_with fail
        refine wp_region_past (by kernel_rfl) (by kernel_rfl) ?_
        repeat (quiet_step ((first | (go_at_call 36; exact calls_past (W1.out _)) | (go_at_call 38; exact calls_past (W2.out _)) | (go_at_call 35; exact calls_past (D.out _)) | (go_at_call 39; exact calls_past (W3.out _)))))
        refine wpQuiet_nil ?_
        intro _ hw'
        obtain ⟨y, hw''⟩ := hw'
        subst hw''
        have hy := past_below wr y
        generalize past wr y = wp at *
        have he := he.below hy he.lt
        have hr := hr.below hy hr.lt
        have hx := hx.below hy hx.lt
        have hb := hb.trans (hy.mono hb.size)
        clear hy Q W1 W2 W3 D
        have ce := fun i => he.cell i
        have cr := fun i => hr.cell i
        have fe := fun i => he.frozen i
        have fr := fun i => hr.frozen i
        by_cases hlt : k < n
        · obtain ⟨a, rfl, hkl, z1⟩ := (HR.out.below hb).word hlt
          have hg := HW.out _ (List.getElem_mem hkl)
          have T1 := hide (fun w2 => pstook_any s' t' f' l' p' l0[k] (0, sl, hd, tr) w2 OK.out.1)
          have T2 := hide (fun w2 => rstook_any l0[k] (0, sl, hd, tr) w2 OK.out.1)
          have OK2 := hide (psTook_in OK.out hg)
          have J2 : Hid ((psTook (0, sl, hd, tr) l0[k]).1 = 0 ∨ Y) := hide (.inl rfl)
          simp only [psV, rsV] at T1 T2
          generalize psTook (0, sl, hd, tr) l0[k] = x2 at *
          obtain ⟨q2, sl2, hd2, tr2⟩ := x2
          simp only at T1 T2
          generalize hG : l0[k] = g at *
          have hkn : (k : Int) < (n : Int) := by omega
          go_wp2_with fail
          go_region_with ((first | (go_at_call 34; refine (T1.out _).mono ?_; rintro e wt ⟨rfl, hbt⟩; have e2 := he.drew.below hbt he.lt; have ce2 := fun i => e2.cell i; have fe2 := fun i => e2.frozen i)))
          all_goals
            have e3 := e2.put9 (.int .i64 s') (.int .i64 t') (.int .i64 f') (.int .i64 l') (.int .i64 p') (.int .i64 q2) (.int .i64 sl2) (.int .u64 hd2) (.int .i64 tr2)
            have r3 := (hr.drew.below hbt hr.lt).off9 (g := ge) (Ne.symm hne) (.int .i64 s') (.int .i64 t') (.int .i64 f') (.int .i64 l') (.int .i64 p') (.int .i64 q2) (.int .i64 sl2) (.int .u64 hd2) (.int .i64 tr2)
            have x3 := (hx.drew.below hbt hx.lt).off9 (g := ge) hge' (.int .i64 s') (.int .i64 t') (.int .i64 f') (.int .i64 l') (.int .i64 p') (.int .i64 q2) (.int .i64 sl2) (.int .u64 hd2) (.int .i64 tr2)
            have B3 := below_put9 ((hb.drew).trans (hbt.mono hb.drew.size)) (g := ge) hge (.int .i64 s') (.int .i64 t') (.int .i64 f') (.int .i64 l') (.int .i64 p') (.int .i64 q2) (.int .i64 sl2) (.int .u64 hd2) (.int .i64 tr2)
            generalize (((((((((wt.setCell ⟨ge, 0, none⟩ (.int .i64 s')).setCell ⟨ge, 1, none⟩ (.int .i64 t')).setCell ⟨ge, 2, none⟩ (.int .i64 f')).setCell ⟨ge, 3, none⟩ (.int .i64 l')).setCell ⟨ge, 4, none⟩ (.int .i64 p')).setCell ⟨ge, 5, none⟩ (.int .i64 q2)).setCell ⟨ge, 6, none⟩ (.int .i64 sl2)).setCell ⟨ge, 7, none⟩ (.int .u64 hd2)).setCell ⟨ge, 8, none⟩ (.int .i64 tr2)) = w3 at *
            clear e2 ce2 fe2 ce cr fe fr
            have ce3 := fun i => e3.cell i
            have cr3 := fun i => r3.cell i
            have fr3 := fun i => r3.frozen i
            obtain ⟨a', ha', _, z2⟩ := (HR.out.below B3).word hlt
            injection ha' with ha'
            subst ha'
            rw [hG] at z2
            go_wp2_with fail
            go_region_with ((first | (go_at_call 40; refine (T2.out _).mono ?_; rintro e wu ⟨rfl, hbu⟩; have r4 := r3.drew.below hbu r3.lt; have cr4 := fun i => r4.cell i; have fr4 := fun i => r4.frozen i)))
            all_goals
              have r5 := r4.put4 (.int .i64 q2) (.int .u64 hd2) (.int .i64 sl2) (.int .i64 tr2)
              have e5 := (e3.drew.below hbu e3.lt).off4 (g := gr) hne (.int .i64 q2) (.int .u64 hd2) (.int .i64 sl2) (.int .i64 tr2)
              have x5 := (x3.drew.below hbu x3.lt).off4 (g := gr) hgr' (.int .i64 q2) (.int .u64 hd2) (.int .i64 sl2) (.int .i64 tr2)
              have B5 := below_put4 ((B3.drew).trans (hbu.mono B3.drew.size)) (g := gr) hgr (.int .i64 q2) (.int .u64 hd2) (.int .i64 sl2) (.int .i64 tr2)
              generalize ((((wu.setCell ⟨gr, 0, none⟩ (.int .i64 q2)).setCell ⟨gr, 1, none⟩ (.int .u64 hd2)).setCell ⟨gr, 2, none⟩ (.int .i64 sl2)).setCell ⟨gr, 3, none⟩ (.int .i64 tr2)) = w5 at *
              clear r4 cr4 fr4 ce3 cr3 fr3
              go_wp2_with fail
              go_roundw
              case measure => simp [intOf]; omega
              case rel => exact ⟨k + 1, q2, sl2, hd2, tr2, by go_num, by omega, OK2.out, J2.out, e5, r5, x5, B5⟩
        · obtain rfl : k = n := by omega
          have hkn : ¬ ((k : Int) < (k : Int)) := by omega
          go_wp2_with fail
          go_roundw
          case measure => (simp [intOf] <;> omega)
          case rel => exact ⟨k + 1, 0, sl, hd, tr, by go_num, by omega, OK.out, by first | exact .inl rfl | exact J.out, he, hr, hx, hb⟩
      · have HYY := hide (hj.resolve_left c0)
        obtain ⟨Yh, rfl, rfl, rfl, rfl, rfl⟩ := HY.out HYY.out
        have hq : (q == 0) = false := by simpa using c0
        have OK := hide hok
        have J : Hid (q = 0 ∨ Y) := hide hj
        clear hok hj
        have D := hide (fun w2 => psdone_1 s' t' f' l' p' sl hd tr q w2 hq)
        have W1 := hide (fun w2 => pswant_any s' t' f' l' p' (q, sl, hd, tr) w2 OK.out (.inr Yh))
        have W2 := hide (fun w2 => rswant_any s' t' f' l' p' (q, sl, hd, tr) w2 OK.out (.inr Yh))
        have W3 := hide (fun w2 => pstries_any s' t' f' l' p' sl hd tr q w2)
        simp only [psV, rsV] at W1 W2
        generalize psAsk t' f' (q, sl, hd, tr) = a at *
        obtain ⟨a1, a2, a3, a4⟩ := a
        simp only at W1 W2
        have Q := sask_neq a1 a2 a3 a4
        go_wp2_with fail
        refine wp_region_past (by kernel_rfl) (by kernel_rfl) ?_
        repeat (quiet_step ((first | (go_at_call 36; exact calls_past (W1.out _)) | (go_at_call 38; exact calls_past (W2.out _)) | (go_at_call 35; exact calls_past (D.out _)) | (go_at_call 39; exact calls_past (W3.out _)))))
        refine wpQuiet_nil ?_
        intro _ hw'
        obtain ⟨y, hw''⟩ := hw'
        subst hw''
        have hy := past_below wr y
        generalize past wr y = wp at *
        have he := he.below hy he.lt
        have hr := hr.below hy hr.lt
        have hx := hx.below hy hx.lt
        have hb := hb.trans (hy.mono hb.size)
        clear hy Q W1 W2 W3 D
        have ce := fun i => he.cell i
        have cr := fun i => hr.cell i
        have fe := fun i => he.frozen i
        have fr := fun i => hr.frozen i
        by_cases hlt : k < n
        · obtain ⟨a, rfl, hkl, z1⟩ := (HR.out.below hb).word hlt
          have hg := HW.out _ (List.getElem_mem hkl)
          have T1 := hide (fun w2 => pstook_any s' t' f' l' p' l0[k] (q, sl, hd, tr) w2 OK.out.1)
          have T2 := hide (fun w2 => rstook_any l0[k] (q, sl, hd, tr) w2 OK.out.1)
          have OK2 := hide (psTook_in OK.out hg)
          have J2 : Hid ((psTook (q, sl, hd, tr) l0[k]).1 = 0 ∨ Y) := hide (.inr HYY.out)
          simp only [psV, rsV] at T1 T2
          generalize psTook (q, sl, hd, tr) l0[k] = x2 at *
          obtain ⟨q2, sl2, hd2, tr2⟩ := x2
          simp only at T1 T2
          generalize hG : l0[k] = g at *
          have hkn : (k : Int) < (n : Int) := by omega
          go_wp2_with fail
          go_region_with ((first | (go_at_call 34; refine (T1.out _).mono ?_; rintro e wt ⟨rfl, hbt⟩; have e2 := he.drew.below hbt he.lt; have ce2 := fun i => e2.cell i; have fe2 := fun i => e2.frozen i)))
          all_goals
            have e3 := e2.put9 (.int .i64 s') (.int .i64 t') (.int .i64 f') (.int .i64 l') (.int .i64 p') (.int .i64 q2) (.int .i64 sl2) (.int .u64 hd2) (.int .i64 tr2)
            have r3 := (hr.drew.below hbt hr.lt).off9 (g := ge) (Ne.symm hne) (.int .i64 s') (.int .i64 t') (.int .i64 f') (.int .i64 l') (.int .i64 p') (.int .i64 q2) (.int .i64 sl2) (.int .u64 hd2) (.int .i64 tr2)
            have x3 := (hx.drew.below hbt hx.lt).off9 (g := ge) hge' (.int .i64 s') (.int .i64 t') (.int .i64 f') (.int .i64 l') (.int .i64 p') (.int .i64 q2) (.int .i64 sl2) (.int .u64 hd2) (.int .i64 tr2)
            have B3 := below_put9 ((hb.drew).trans (hbt.mono hb.drew.size)) (g := ge) hge (.int .i64 s') (.int .i64 t') (.int .i64 f') (.int .i64 l') (.int .i64 p') (.int .i64 q2) (.int .i64 sl2) (.int .u64 hd2) (.int .i64 tr2)
            generalize (((((((((wt.setCell ⟨ge, 0, none⟩ (.int .i64 s')).setCell ⟨ge, 1, none⟩ (.int .i64 t')).setCell ⟨ge, 2, none⟩ (.int .i64 f')).setCell ⟨ge, 3, none⟩ (.int .i64 l')).setCell ⟨ge, 4, none⟩ (.int .i64 p')).setCell ⟨ge, 5, none⟩ (.int .i64 q2)).setCell ⟨ge, 6, none⟩ (.int .i64 sl2)).setCell ⟨ge, 7, none⟩ (.int .u64 hd2)).setCell ⟨ge, 8, none⟩ (.int .i64 tr2)) = w3 at *
            clear e2 ce2 fe2 ce cr fe fr
            have ce3 := fun i => e3.cell i
            have cr3 := fun i => r3.cell i
            have fr3 := fun i => r3.frozen i
            obtain ⟨a', ha', _, z2⟩ := (HR.out.below B3).word hlt
            injection ha' with ha'
            subst ha'
            rw [hG] at z2
            go_wp2_with fail
            go_region_with ((first | (go_at_call 40; refine (T2.out _).mono ?_; rintro e wu ⟨rfl, hbu⟩; have r4 := r3.drew.below hbu r3.lt; have cr4 := fun i => r4.cell i; have fr4 := fun i => r4.frozen i)))
            all_goals
              have r5 := r4.put4 (.int .i64 q2) (.int .u64 hd2) (.int .i64 sl2) (.int .i64 tr2)
              have e5 := (e3.drew.below hbu e3.lt).off4 (g := gr) hne (.int .i64 q2) (.int .u64 hd2) (.int .i64 sl2) (.int .i64 tr2)
              have x5 := (x3.drew.below hbu x3.lt).off4 (g := gr) hgr' (.int .i64 q2) (.int .u64 hd2) (.int .i64 sl2) (.int .i64 tr2)
              have B5 := below_put4 ((B3.drew).trans (hbu.mono B3.drew.size)) (g := gr) hgr (.int .i64 q2) (.int .u64 hd2) (.int .i64 sl2) (.int .i64 tr2)
              generalize ((((wu.setCell ⟨gr, 0, none⟩ (.int .i64 q2)).setCell ⟨gr, 1, none⟩ (.int .u64 hd2)).setCell ⟨gr, 2, none⟩ (.int .i64 sl2)).setCell ⟨gr, 3, none⟩ (.int .i64 tr2)) = w5 at *
              clear r4 cr4 fr4 ce3 cr3 fr3
              go_wp2_with fail
              go_roundw
              case measure => simp [intOf]; omega
              case rel => exact ⟨k + 1, q2, sl2, hd2, tr2, by go_num, by omega, OK2.out, J2.out, e5, r5, x5, B5⟩
        · obtain rfl : k = n := by omega
          have hkn : ¬ ((k : Int) < (k : Int)) := by omega
          go_wp2_with fail
          go_roundw
          case measure => (simp [intOf] <;> omega)
          case rel => exact ⟨k + 1, q, sl, hd, tr, by go_num, by omega, OK.out, by first | exact .inl rfl | exact J.out, he, hr, hx, hb⟩
    · obtain rfl : k = n + 1 := by omega
      have hkz : ¬ (((n + 1 : Nat) : Int) ≤ (n : Int)) := by omega
      have HB := hide hb
      clear he hr hx hb hok hj
      go_wp2_with fail
      refine (Aw.out _ HB.out).mono ?_
      rintro e w9 ⟨rfl, hb9⟩
      go_wp2_with fail
      go_ret
      exact ⟨rfl, HB.out.trans (hb9.mono HB.out.size)⟩
end Go.Proofs.YthmkhcmgpkngmaaDoor
