/-
  The Go function AdvancePlays.
-/
import Derived.Test.YtglbgddjahenjaaDoorAdvG
import Derived.Test.YtglbgddjahenjaaDoorHeldB
import Derived.Test.YtglbgddjahenjaaDoorLayH
import Derived.Deep.RegionHeld3
import Derived.Deep.RegionWith
namespace Go.Proofs.YtglbgddjahenjaaDoor
open Go.RowKit
attribute [local go_sem] past_cell past_cell_add

def PvIn (n ge gr : Nat) (s t f l p s' t' f' l' p' own' : Int) (Y : Prop) (w : World) (i : Value) (wr : World) : Prop :=
  ∃ (k : Nat) (x : Av) (A : Option Addr) (c : Nat), i = .int .i64 k ∧ k ≤ n + 1 ∧ AvOk own' t' Y x ∧ Blk wr ge 30 #[.int .i64 s', .int .i64 t', .int .i64 f', .int .i64 l', .int .i64 p', .int .i64 own', .int .i64 (x).k, .int .i64 (x).oc, .int .u64 (x).ep, .int .i64 (x).th, .int .u64 (x).wd, .int .u64 ((x).ev : Int), .int .i64 (x).ju] ∧ Blk wr gr 43 #[.int .i64 own', .int .i64 (x).k, .int .i64 (rO (x)), .int .u64 (x).ep, .int .i64 (x).th, .int .u64 (x).wd, .slice A (evL (x).ev 64).length c, .int .i64 ((x).ju - 1)] ∧ wr.ownsRow (gr + 1) 3 1 (.slice A (evL x.ev 64).length c) (evL x.ev 64).length (ints .i64 (evL x.ev 64)) ∧ Blk wr w.heap.size 23 #[.int .i64 s, .int .i64 t, .int .i64 f, .int .i64 l, .int .i64 p] ∧ Below w.heap.size w wr
set_option maxRecDepth 100000 in
set_option maxHeartbeats 8000000 in
theorem plays18 (s t f l p own s' t' f' l' p' own' s1 t1 f1 l1 p1 q0 ro0 : Int) (A : Option Addr) (n c : Nat) (l0 : List Int) (w : World) (Y : Prop) (hT : Tab w) (hn : n ≤ 300) (hr : Reads w w.heap.size 1 A n (ints .u64 l0)) (hw : ∀ y ∈ l0, W64 y)
    (hY : Y → s' = s ∧ t' = t ∧ f' = f ∧ l' = l ∧ p' = p) (hY2 : Y → (1 ≤ s' ∧ s' ≤ 1000) ∧ (4 ≤ f' ∧ f' ≤ 64)) (hp' : I64 p') (hok : AvOk own' t' Y ⟨q0, 0, 0, 0, 0, 0, 0⟩) (hro : rO ⟨q0, 0, 0, 0, 0, 0, 0⟩ = ro0)
    (NL : ∀ w2, Below w.heap.size w w2 → Calls Tryd.prog 7 #[.agg #[.int .i64 s, .int .i64 t, .int .i64 f, .int .i64 l, .int .i64 p]] w2 fun e w' => e = .returned (.agg #[.int .i64 s1, .int .i64 t1, .int .i64 f1, .int .i64 l1, .int .i64 p1]) ∧ Below w2.heap.size w2 w')
    (N : ∀ w2, Calls Tryd.prog 6 #[.agg #[.int .i64 s1, .int .i64 t1, .int .i64 f1, .int .i64 l1, .int .i64 p1], .int .i64 own] w2 fun e w' => e = .returned (.agg #[.int .i64 s', .int .i64 t', .int .i64 f', .int .i64 l', .int .i64 p', .int .i64 own', .int .i64 q0, .int .i64 0, .int .u64 0, .int .i64 0, .int .u64 0, .int .u64 0, .int .i64 0]) ∧ Below w2.heap.size w2 w')
    (RN : ∀ w2, Calls Tryd.prog 12 #[.agg #[.int .i64 s, .int .i64 t, .int .i64 f, .int .i64 l, .int .i64 p], .int .i64 own] w2 fun e w' => e = .returned (.agg #[.int .i64 own', .int .i64 q0, .int .i64 ro0, .int .u64 0, .int .i64 0, .int .u64 0, .slice none 0 0, .int .i64 (-1)]) ∧ Below w2.heap.size w2 w') :
    Calls Tryd.prog 4 #[.agg #[.int .i64 s, .int .i64 t, .int .i64 f, .int .i64 l, .int .i64 p], .int .i64 own, .slice A n c] w fun e w' => e = .returned (.bool true) ∧ Below w.heap.size w w' := by
  have HR := hide hr
  have HW := hide hw
  have Aw := hide (fun w2 (hb : Below w.heap.size w w2) => awake18 w2 (hT.below hb))
  have NL' := hide NL
  have N' := hide N
  have RN' := hide RN
  have HY := hide hY
  have HY2 := hide hY2
  have HP' := hide hp'
  have OK0 := hide hok
  have HRO := hide hro
  clear hr hw NL N RN hY hY2 hp' hok hro
  have bx := Blk.new w 23 #[.int .i64 s, .int .i64 t, .int .i64 f, .int .i64 l, .int .i64 p]
  have B0 := (Below.refl w.heap.size w).alloc (Nat.le_refl _) (.cells #[.int .i64 s, .int .i64 t, .int .i64 f, .int .i64 l, .int .i64 p] 23)
  go_enter Tryd.func4, Tryd.ntmps4
  go_wp2_with fail
  refine (NL'.out _ B0).mono ?_
  rintro e w1 ⟨rfl, hb1⟩
  try replace bx := bx.below hb1 bx.lt
  try replace bo := bo.below hb1 bo.lt
  try replace by_ := by_.below hb1 by_.lt
  replace B0 := B0.trans (hb1.mono B0.size)
  clear hb1
  try clear mx lx
  try clear mo lo zo
  try clear my ly zy
  try have mx := fun i => bx.cell i
  try have lx := bx.lt
  try have mo := fun i => bo.cell i
  try have lo := bo.lt
  try have zo := fun i => bo.frozen i
  try have my := fun i => by_.cell i
  try have ly := by_.lt
  try have zy := fun i => by_.frozen i
  go_wp2_with fail
  refine (N'.out _).mono ?_
  rintro e w2 ⟨rfl, hb1⟩
  replace bx := bx.below hb1 bx.lt
  replace B0 := B0.trans (hb1.mono B0.size)
  clear hb1
  have be := Blk.new w2 30 #[.int .i64 s', .int .i64 t', .int .i64 f', .int .i64 l', .int .i64 p', .int .i64 own', .int .i64 q0, .int .i64 0, .int .u64 0, .int .i64 0, .int .u64 0, .int .u64 0, .int .i64 0]
  have hge : w.heap.size ≤ w2.heap.size := B0.size
  have hge' : w.heap.size ≠ w2.heap.size := by have := bx.lt; omega
  replace bx := bx.alloc (.cells #[.int .i64 s', .int .i64 t', .int .i64 f', .int .i64 l', .int .i64 p', .int .i64 own', .int .i64 q0, .int .i64 0, .int .u64 0, .int .i64 0, .int .u64 0, .int .u64 0, .int .i64 0] 30)
  replace B0 := B0.alloc B0.size (.cells #[.int .i64 s', .int .i64 t', .int .i64 f', .int .i64 l', .int .i64 p', .int .i64 own', .int .i64 q0, .int .i64 0, .int .u64 0, .int .i64 0, .int .u64 0, .int .u64 0, .int .i64 0] 30)
  try clear mx lx
  try clear mo lo zo
  try clear my ly zy
  try have mx := fun i => bx.cell i
  try have lx := bx.lt
  try have mo := fun i => bo.cell i
  try have lo := bo.lt
  try have zo := fun i => bo.frozen i
  try have my := fun i => by_.cell i
  try have ly := by_.lt
  try have zy := fun i => by_.frozen i
  go_wp2_with fail
  generalize w2.heap.size = ge at *
  refine (RN'.out _).mono ?_
  rintro e w3 ⟨rfl, hb1⟩
  replace bx := bx.below hb1 bx.lt
  replace be := be.below hb1 be.lt
  replace B0 := B0.trans (hb1.mono B0.size)
  clear hb1
  have br := Blk.new w3 43 #[.int .i64 own', .int .i64 q0, .int .i64 ro0, .int .u64 0, .int .i64 0, .int .u64 0, .slice none 0 0, .int .i64 (-1)]
  have hgr : w.heap.size ≤ w3.heap.size := B0.size
  have hgr' : w.heap.size ≠ w3.heap.size := by have := bx.lt; omega
  have hne : ge ≠ w3.heap.size := by have := be.lt; omega
  have hlt' : ge < w3.heap.size + 1 := by have := be.lt; omega
  replace bx := bx.alloc (.cells #[.int .i64 own', .int .i64 q0, .int .i64 ro0, .int .u64 0, .int .i64 0, .int .u64 0, .slice none 0 0, .int .i64 (-1)] 43)
  replace be := be.alloc (.cells #[.int .i64 own', .int .i64 q0, .int .i64 ro0, .int .u64 0, .int .i64 0, .int .u64 0, .slice none 0 0, .int .i64 (-1)] 43)
  replace B0 := B0.alloc B0.size (.cells #[.int .i64 own', .int .i64 q0, .int .i64 ro0, .int .u64 0, .int .i64 0, .int .u64 0, .slice none 0 0, .int .i64 (-1)] 43)
  try clear mx lx
  try clear mo lo zo
  try clear my ly zy
  try have mx := fun i => bx.cell i
  try have lx := bx.lt
  try have mo := fun i => bo.cell i
  try have lo := bo.lt
  try have zo := fun i => bo.frozen i
  try have my := fun i => by_.cell i
  try have ly := by_.lt
  try have zy := fun i => by_.frozen i
  go_wp2_with fail
  generalize w3.heap.size = gr at *
  generalize w3.alloc (.cells #[.int .i64 own', .int .i64 q0, .int .i64 ro0, .int .u64 0, .int .i64 0, .int .u64 0, .slice none 0 0, .int .i64 (-1)] 43) = w4 at *
  clear mx lx NL' N' RN'
  go_loopw [9] (PvIn n ge gr s t f l p s' t' f' l' p' own' Y w) (fun i _ => n + 2 - (intOf i).toNat)
  case atStart =>
    refine ⟨0, ⟨q0, 0, 0, 0, 0, 0, 0⟩, none, 0, rfl, by omega, OK0.out, be, ?_, ?_, bx, B0⟩
    · simp only [HRO.out, evL_zero]
      exact br
    · simp only [evL_zero]
      exact World.ownsRow_nil _ _ _ _
  case round =>
    clear be br bx B0
    obtain ⟨k, x, AR, cR, rfl, hk, hok, he, hr, hrow, hx, hb⟩ := hrel
    by_cases hkn1 : k ≤ n
    · have hkz : (k : Int) ≤ (n : Int) := by omega
      obtain ⟨o, b, D, DS⟩ := done_any s' t' f' l' p' own' x
      obtain ⟨a1, a2, a3, a4, W1, W2⟩ := want_both s t f l p s' t' f' l' p' own' x Y hok HY.out HY2.out
      have OK := hide hok
      have TB := hide (fun g hg => took_both s t f l p s' t' f' l' p' own' g x Y OK.out HY.out HP'.out hg)
      have HOK := hide hok
      obtain ⟨_, _, _, _, hj, hev, _⟩ := hok
      replace D := hide D
      replace W1 := hide W1
      replace W2 := hide W2
      have E1 := hide (fun w2 => aepo_any s' t' f' l' p' own' x.oc x.ep x.th x.wd (x.ev : Int) x.ju x.k w2)
      have J1 := hide (fun w2 => ajust_any s' t' f' l' p' own' x.oc x.ep x.th x.wd (x.ev : Int) x.ju x.k w2 hj)
      have V1 := hide (fun w2 => evicted_any s' t' f' l' p' own' x.k x.oc x.ep x.th x.wd x.ju x.ev w2 hev)
      have HN := hide (show (evL x.ev 64).length ≤ 4294967296 by have := evLen x.ev; omega)
      clear hj hev OK
      unfold avV raV at TB
      unfold avV at D W1
      unfold raV at W2
      generalize hro : rO x = ro at *
      obtain ⟨q, oc, ep, th, wd, ev, ju⟩ := x
      simp only at he hr hrow D DS W1 W2 E1 J1 V1 HN TB
      generalize hL : evL ev 64 = L at *
      generalize hnL : L.length = nL at *
      generalize hjr : ju - 1 = jr at *
      generalize hev' : (ev : Int) = ev' at *
      have HL1 := hide hL
      have HN1 := hide hnL
      have HJ1 := hide hjr
      have HE1 := hide hev'
      clear hL hnL hjr hev'
      have Q := ask_neq a1 a2 a3 a4
      have HRO2 := hide hro
      clear hro
      have ce := fun i => he.cell i
      have cr := fun i => hr.cell i
      have le := he.lt
      have lr := hr.lt
      rcases DS with ⟨hq, hb0, ho⟩ | ⟨hq, hb0, ho⟩
      · subst hq
        have oe := ho.symm
        subst oe hb0
        clear ho
        go_wp2_with fail
        refine (D.out _).mono ?_
        rintro e wD ⟨rfl, hbd⟩
        replace he := he.below hbd he.lt
        replace hr := hr.below hbd hr.lt
        replace hx := hx.below hbd hx.lt
        replace hrow := own_below hrow hbd
        replace hb := hb.trans (hbd.mono hb.size)
        clear hbd ce cr le lr
        have ce := fun i => he.cell i
        have cr := fun i => hr.cell i
        have cx := fun i => hx.cell i
        have le := he.lt
        have lr := hr.lt
        have lx := hx.lt
        go_wp2_with fail
        clear ce cr cx le lr lx D
        replace he := he.drew
        replace hr := hr.drew
        replace hx := hx.drew
        replace hrow := hrow.drew
        replace hb := hb.drew
        go_region_held3 (fun w' => (w'.cell? ⟨ge, 0, none⟩ = some (.int .i64 s') ∧ w'.cell? ⟨ge, 1, none⟩ = some (.int .i64 t') ∧ w'.cell? ⟨ge, 2, none⟩ = some (.int .i64 f') ∧ w'.cell? ⟨ge, 3, none⟩ = some (.int .i64 l') ∧ w'.cell? ⟨ge, 4, none⟩ = some (.int .i64 p') ∧ w'.cell? ⟨ge, 5, none⟩ = some (.int .i64 own') ∧ w'.cell? ⟨ge, 6, none⟩ = some (.int .i64 0) ∧ w'.cell? ⟨ge, 7, none⟩ = some (.int .i64 oc) ∧ w'.cell? ⟨ge, 8, none⟩ = some (.int .u64 ep) ∧ w'.cell? ⟨ge, 9, none⟩ = some (.int .i64 th) ∧ w'.cell? ⟨ge, 10, none⟩ = some (.int .u64 wd) ∧ w'.cell? ⟨ge, 11, none⟩ = some (.int .u64 ev') ∧ w'.cell? ⟨ge, 12, none⟩ = some (.int .i64 ju)) ∧ (w'.cell? ⟨gr, 0, none⟩ = some (.int .i64 own') ∧ w'.cell? ⟨gr, 1, none⟩ = some (.int .i64 0) ∧ w'.cell? ⟨gr, 2, none⟩ = some (.int .i64 ro) ∧ w'.cell? ⟨gr, 3, none⟩ = some (.int .u64 ep) ∧ w'.cell? ⟨gr, 4, none⟩ = some (.int .i64 th) ∧ w'.cell? ⟨gr, 5, none⟩ = some (.int .u64 wd) ∧ w'.cell? ⟨gr, 6, none⟩ = some (.slice AR nL cR) ∧ w'.cell? ⟨gr, 7, none⟩ = some (.int .i64 jr)) ∧ (w'.cell? ⟨w.heap.size, 0, none⟩ = some (.int .i64 s) ∧ w'.cell? ⟨w.heap.size, 1, none⟩ = some (.int .i64 t) ∧ w'.cell? ⟨w.heap.size, 2, none⟩ = some (.int .i64 f) ∧ w'.cell? ⟨w.heap.size, 3, none⟩ = some (.int .i64 l) ∧ w'.cell? ⟨w.heap.size, 4, none⟩ = some (.int .i64 p))) (with_reducible exact ⟨cells13 he, cells8 hr, cells5 hx⟩) ((first | (go_at_call 10; refine (W1.out _).mono ?_; rintro e w1 ⟨rfl, hb1⟩; have he := he.below hb1 he.lt; have hr := hr.below hb1 hr.lt; have hx := hx.below hb1 hx.lt; have hrow := own_below hrow hb1; have hb := hb.trans (hb1.mono hb.size); clear hb1) | (go_at_call 13; refine (W2.out _ _ _).mono ?_; rintro e w1 ⟨rfl, hb1⟩; have he := he.below hb1 he.lt; have hr := hr.below hb1 hr.lt; have hx := hx.below hb1 hx.lt; have hrow := own_below hrow hb1; have hb := hb.trans (hb1.mono hb.size); clear hb1) | (go_at_call 14; refine (E1.out _).mono ?_; rintro e w1 ⟨rfl, hb1⟩; have he := he.below hb1 he.lt; have hr := hr.below hb1 hr.lt; have hx := hx.below hb1 hx.lt; have hrow := own_below hrow hb1; have hb := hb.trans (hb1.mono hb.size); clear hb1) | (go_at_call 11; refine (J1.out _).mono ?_; rintro e w1 ⟨rfl, hb1⟩; have he := he.below hb1 he.lt; have hr := hr.below hb1 hr.lt; have hx := hx.below hb1 hx.lt; have hrow := own_below hrow hb1; have hb := hb.trans (hb1.mono hb.size); clear hb1) | (go_at_call 16; refine (V1.out _).mono ?_; rintro e w1 ⟨⟨A1, c1, rfl, ro1⟩, hb1⟩; have he := he.below hb1 he.lt; have hr := hr.below hb1 hr.lt; have hx := hx.below hb1 hx.lt; have hrow := own_below hrow hb1; have hb := hb.trans (hb1.mono hb.size); clear hb1) | (go_at_call 15; refine (Ints_eq _ _ _ _ _ L _ HN.out (Reads.of_own ro1) (Reads.of_own hrow)).mono ?_; rintro e w1 ⟨rfl, hb1⟩; have he := he.below hb1 he.lt; have hr := hr.below hb1 hr.lt; have hx := hx.below hb1 hx.lt; have hrow := own_below hrow hb1; have hb := hb.trans (hb1.mono hb.size); clear hb1)))
        all_goals
          clear Q W1 W2 E1 J1 V1 HN
          by_cases hlt : k < n
          · obtain ⟨a, rfl, hkl, z1⟩ := (HR.out.below hb).word hlt
            have hg := HW.out _ (List.getElem_mem hkl)
            obtain ⟨x2, T1, T2, OK2⟩ := TB.out l0[k] hg
            obtain ⟨q2, oc2, ep2, th2, wd2, evn, ju2⟩ := x2
            unfold RaTook raV at T2
            simp only at T1 T2
            replace OK2 := hide OK2
            generalize hro2 : rO ⟨q2, oc2, ep2, th2, wd2, evn, ju2⟩ = ro2 at *
            generalize hL2 : evL evn 64 = L2 at *
            generalize hn2 : L2.length = n2 at *
            generalize hev2 : (evn : Int) = ev2 at *
            generalize hjr2 : ju2 - 1 = jr2 at *
            have HO2 := hide hro2
            have HL2 := hide hL2
            have HN2 := hide hn2
            have HE2 := hide hev2
            have HJ2 := hide hjr2
            clear hro2 hL2 hn2 hev2 hjr2
            replace T1 := hide T1
            replace T2 := hide T2
            generalize hG : l0[k] = g at *
            have ZK := hide (show ∀ w2, Below w.heap.size w w2 → w2.cell? (a.add k) = some (.int .u64 g) from fun w2 hB => by
              obtain ⟨a', ea, _, zz⟩ := (HR.out.below hB).word hlt
              injection ea with ea
              subst ea
              rw [hG] at zz
              exact zz)
            clear hG z1
            have hkn : (k : Int) < (n : Int) := by omega
            go_wp2_with fail
            replace he := he.drew
            replace hr := hr.drew
            replace hx := hx.drew
            replace hrow := hrow.drew
            replace hb := hb.drew
            refine wp_region_heldZ [6] (fun w' => (w'.cell? ⟨ge, 0, none⟩ = some (.int .i64 s') ∧ w'.cell? ⟨ge, 1, none⟩ = some (.int .i64 t') ∧ w'.cell? ⟨ge, 2, none⟩ = some (.int .i64 f') ∧ w'.cell? ⟨ge, 3, none⟩ = some (.int .i64 l') ∧ w'.cell? ⟨ge, 4, none⟩ = some (.int .i64 p') ∧ w'.cell? ⟨ge, 5, none⟩ = some (.int .i64 own') ∧ w'.cell? ⟨ge, 6, none⟩ = some (.int .i64 0) ∧ w'.cell? ⟨ge, 7, none⟩ = some (.int .i64 oc) ∧ w'.cell? ⟨ge, 8, none⟩ = some (.int .u64 ep) ∧ w'.cell? ⟨ge, 9, none⟩ = some (.int .i64 th) ∧ w'.cell? ⟨ge, 10, none⟩ = some (.int .u64 wd) ∧ w'.cell? ⟨ge, 11, none⟩ = some (.int .u64 ev') ∧ w'.cell? ⟨ge, 12, none⟩ = some (.int .i64 ju)) ∧ w'.cell? (a.add k) = some (.int .u64 g)) (by kernel_rfl) (by exact ⟨cells13 he, ZK.out _ hb⟩) (fun hHeld => ?_)
            refine' wpAnyZ_takeA (i := 0) (v := ?_) (opAt rfl) (by kernel_rfl) (by kernel_rfl) (by kernel_rfl) (by kernel_rfl) (fun _ _ _ h => h) (by assumption) (by rfl) (fun w hSw => ?_) ?_
            rotate_left
            · (try dsimp only at hSw); go_simp; (try with_reducible rfl)
            try simp only [Act.put, List.setIfInBounds_toArray, List.set_cons_zero, List.set_cons_succ]
            refine' wpAnyZ_takeA (i := 1) (v := ?_) (opAt rfl) (by kernel_rfl) (by kernel_rfl) (by kernel_rfl) (by kernel_rfl) (fun _ _ _ h => h) (by assumption) (by rfl) (fun w hSw => ?_) ?_
            rotate_left
            · (try dsimp only at hSw); go_simp; (try with_reducible rfl)
            try simp only [Act.put, List.setIfInBounds_toArray, List.set_cons_zero, List.set_cons_succ]
            refine' wpAnyZ_takeA (i := 2) (v := ?_) (opAt rfl) (by kernel_rfl) (by kernel_rfl) (by kernel_rfl) (by kernel_rfl) (fun _ _ _ h => h) (by assumption) (by rfl) (fun w hSw => ?_) ?_
            rotate_left
            · (try dsimp only at hSw); go_simp; (try with_reducible rfl)
            try simp only [Act.put, List.setIfInBounds_toArray, List.set_cons_zero, List.set_cons_succ]
            refine' wpAnyZ_takeA (i := 3) (v := ?_) (opAt rfl) (by kernel_rfl) (by kernel_rfl) (by kernel_rfl) (by kernel_rfl) (fun _ _ _ h => h) (by assumption) (by rfl) (fun w hSw => ?_) ?_
            rotate_left
            · (try dsimp only at hSw); go_simp; (try with_reducible rfl)
            try simp only [Act.put, List.setIfInBounds_toArray, List.set_cons_zero, List.set_cons_succ]
            refine' wpAnyZ_takeA (i := 4) (v := ?_) (opAt rfl) (by kernel_rfl) (by kernel_rfl) (by kernel_rfl) (by kernel_rfl) (fun _ _ _ h => h) (by assumption) (by rfl) (fun w hSw => ?_) ?_
            rotate_left
            · (try dsimp only at hSw); go_simp; (try with_reducible rfl)
            try simp only [Act.put, List.setIfInBounds_toArray, List.set_cons_zero, List.set_cons_succ]
            refine wpAnyZ_ready (rs := [5]) (by kernel_rfl) (by simp) ?_
            refine AllReadyZ.cons (opAt rfl) (fun K hK => ?_) ?_
            · skip
              go_simp
              refine (T1.out _).mono ?_
              rintro e wt ⟨rfl, hbt⟩
              replace he := he.below hbt he.lt
              replace hr := hr.below hbt hr.lt
              replace hx := hx.below hbt hx.lt
              replace hrow := own_below hrow hbt
              replace hb := hb.trans (hbt.mono hb.size)
              clear hbt
              try go_wp2_with fail
              refine hK.out _ _ (by exact ⟨cells13 he, ZK.out _ hb⟩) (fun hHeld => ?_)
              clear hK K
              try simp only [Act.put, List.setIfInBounds_toArray, List.set_cons_zero, List.set_cons_succ]
              refine wpAnyZ_ready (rs := [6]) (by kernel_rfl) (by simp) ?_
              refine AllReadyZ.last (opAt rfl) (by kernel_rfl) (fun K hK => ?_) ?_
              · skip
                have fe := fun i => he.frozen i
                go_simp
                refine hK.out _ _ ?_
                clear hK K
                try simp only [Act.put, List.setIfInBounds_toArray, List.set_cons_zero, List.set_cons_succ]
                refine wpAnyZ_done (by kernel_rfl) ?_ _
                have e3 := he.put13 (.int .i64 s') (.int .i64 t') (.int .i64 f') (.int .i64 l') (.int .i64 p') (.int .i64 own') (.int .i64 q2) (.int .i64 oc2) (.int .u64 ep2) (.int .i64 th2) (.int .u64 wd2) (.int .u64 ev2) (.int .i64 ju2)
                have r3 := hr.off13 (g := ge) (Ne.symm hne) (.int .i64 s') (.int .i64 t') (.int .i64 f') (.int .i64 l') (.int .i64 p') (.int .i64 own') (.int .i64 q2) (.int .i64 oc2) (.int .u64 ep2) (.int .i64 th2) (.int .u64 wd2) (.int .u64 ev2) (.int .i64 ju2)
                have x3 := hx.off13 (g := ge) hge' (.int .i64 s') (.int .i64 t') (.int .i64 f') (.int .i64 l') (.int .i64 p') (.int .i64 own') (.int .i64 q2) (.int .i64 oc2) (.int .u64 ep2) (.int .i64 th2) (.int .u64 wd2) (.int .u64 ev2) (.int .i64 ju2)
                have o3 := own_put13 hrow hlt' (.int .i64 s') (.int .i64 t') (.int .i64 f') (.int .i64 l') (.int .i64 p') (.int .i64 own') (.int .i64 q2) (.int .i64 oc2) (.int .u64 ep2) (.int .i64 th2) (.int .u64 wd2) (.int .u64 ev2) (.int .i64 ju2)
                have B3 := below_put13 hb (g := ge) hge (.int .i64 s') (.int .i64 t') (.int .i64 f') (.int .i64 l') (.int .i64 p') (.int .i64 own') (.int .i64 q2) (.int .i64 oc2) (.int .u64 ep2) (.int .i64 th2) (.int .u64 wd2) (.int .u64 ev2) (.int .i64 ju2)
                generalize (((((((((((((wt.setCell ⟨ge, 0, none⟩ (.int .i64 s')).setCell ⟨ge, 1, none⟩ (.int .i64 t')).setCell ⟨ge, 2, none⟩ (.int .i64 f')).setCell ⟨ge, 3, none⟩ (.int .i64 l')).setCell ⟨ge, 4, none⟩ (.int .i64 p')).setCell ⟨ge, 5, none⟩ (.int .i64 own')).setCell ⟨ge, 6, none⟩ (.int .i64 q2)).setCell ⟨ge, 7, none⟩ (.int .i64 oc2)).setCell ⟨ge, 8, none⟩ (.int .u64 ep2)).setCell ⟨ge, 9, none⟩ (.int .i64 th2)).setCell ⟨ge, 10, none⟩ (.int .u64 wd2)).setCell ⟨ge, 11, none⟩ (.int .u64 ev2)).setCell ⟨ge, 12, none⟩ (.int .i64 ju2)) = w3 at *
                clear fe he hr hx hrow hb
                go_wp2_with fail
                replace e3 := e3.drew
                replace r3 := r3.drew
                replace x3 := x3.drew
                replace o3 := o3.drew
                replace B3 := B3.drew
                refine wp_region_heldZ [7] (fun w' => (w'.cell? ⟨w.heap.size, 0, none⟩ = some (.int .i64 s) ∧ w'.cell? ⟨w.heap.size, 1, none⟩ = some (.int .i64 t) ∧ w'.cell? ⟨w.heap.size, 2, none⟩ = some (.int .i64 f) ∧ w'.cell? ⟨w.heap.size, 3, none⟩ = some (.int .i64 l) ∧ w'.cell? ⟨w.heap.size, 4, none⟩ = some (.int .i64 p)) ∧ (w'.cell? ⟨gr, 0, none⟩ = some (.int .i64 own') ∧ w'.cell? ⟨gr, 1, none⟩ = some (.int .i64 0) ∧ w'.cell? ⟨gr, 2, none⟩ = some (.int .i64 ro) ∧ w'.cell? ⟨gr, 3, none⟩ = some (.int .u64 ep) ∧ w'.cell? ⟨gr, 4, none⟩ = some (.int .i64 th) ∧ w'.cell? ⟨gr, 5, none⟩ = some (.int .u64 wd) ∧ w'.cell? ⟨gr, 6, none⟩ = some (.slice AR nL cR) ∧ w'.cell? ⟨gr, 7, none⟩ = some (.int .i64 jr)) ∧ w'.cell? (a.add k) = some (.int .u64 g)) (by kernel_rfl) (by exact ⟨cells5 x3, cells8 r3, ZK.out _ B3⟩) (fun hHeld => ?_)
                refine' wpAnyZ_takeA (i := 0) (v := ?_) (opAt rfl) (by kernel_rfl) (by kernel_rfl) (by kernel_rfl) (by kernel_rfl) (fun _ _ _ h => h) (by assumption) (by rfl) (fun w hSw => ?_) ?_
                rotate_left
                · (try dsimp only at hSw); go_simp; (try with_reducible rfl)
                try simp only [Act.put, List.setIfInBounds_toArray, List.set_cons_zero, List.set_cons_succ]
                refine' wpAnyZ_takeA (i := 1) (v := ?_) (opAt rfl) (by kernel_rfl) (by kernel_rfl) (by kernel_rfl) (by kernel_rfl) (fun _ _ _ h => h) (by assumption) (by rfl) (fun w hSw => ?_) ?_
                rotate_left
                · (try dsimp only at hSw); go_simp; (try with_reducible rfl)
                try simp only [Act.put, List.setIfInBounds_toArray, List.set_cons_zero, List.set_cons_succ]
                refine' wpAnyZ_takeA (i := 2) (v := ?_) (opAt rfl) (by kernel_rfl) (by kernel_rfl) (by kernel_rfl) (by kernel_rfl) (fun _ _ _ h => h) (by assumption) (by rfl) (fun w hSw => ?_) ?_
                rotate_left
                · (try dsimp only at hSw); go_simp; (try with_reducible rfl)
                try simp only [Act.put, List.setIfInBounds_toArray, List.set_cons_zero, List.set_cons_succ]
                refine' wpAnyZ_takeA (i := 3) (v := ?_) (opAt rfl) (by kernel_rfl) (by kernel_rfl) (by kernel_rfl) (by kernel_rfl) (fun _ _ _ h => h) (by assumption) (by rfl) (fun w hSw => ?_) ?_
                rotate_left
                · (try dsimp only at hSw); go_simp; (try with_reducible rfl)
                try simp only [Act.put, List.setIfInBounds_toArray, List.set_cons_zero, List.set_cons_succ]
                refine' wpAnyZ_takeA (i := 4) (v := ?_) (opAt rfl) (by kernel_rfl) (by kernel_rfl) (by kernel_rfl) (by kernel_rfl) (fun _ _ _ h => h) (by assumption) (by rfl) (fun w hSw => ?_) ?_
                rotate_left
                · (try dsimp only at hSw); go_simp; (try with_reducible rfl)
                try simp only [Act.put, List.setIfInBounds_toArray, List.set_cons_zero, List.set_cons_succ]
                refine' wpAnyZ_takeA (i := 5) (v := ?_) (opAt rfl) (by kernel_rfl) (by kernel_rfl) (by kernel_rfl) (by kernel_rfl) (fun _ _ _ h => h) (by assumption) (by rfl) (fun w hSw => ?_) ?_
                rotate_left
                · (try dsimp only at hSw); go_simp; (try with_reducible rfl)
                try simp only [Act.put, List.setIfInBounds_toArray, List.set_cons_zero, List.set_cons_succ]
                refine wpAnyZ_ready (rs := [6]) (by kernel_rfl) (by simp) ?_
                refine AllReadyZ.cons (opAt rfl) (fun K hK => ?_) ?_
                · skip
                  go_simp
                  refine (T2.out AR cR (gr + 1) _ (show gr + 1 ≤ w3.drew.heap.size from r3.lt) o3).mono ?_
                  rintro e wu ⟨⟨A2, c2, rfl, ro4⟩, hbu⟩
                  replace e3 := e3.below hbu e3.lt
                  replace r3 := r3.below hbu r3.lt
                  replace x3 := x3.below hbu x3.lt
                  replace B3 := B3.trans (hbu.mono B3.size)
                  clear hbu o3
                  try go_wp2_with fail
                  refine hK.out _ _ (by exact ⟨cells5 x3, cells8 r3, ZK.out _ B3⟩) (fun hHeld => ?_)
                  clear hK K
                  try simp only [Act.put, List.setIfInBounds_toArray, List.set_cons_zero, List.set_cons_succ]
                  refine wpAnyZ_ready (rs := [7]) (by kernel_rfl) (by simp) ?_
                  refine AllReadyZ.last (opAt rfl) (by kernel_rfl) (fun K hK => ?_) ?_
                  · skip
                    have fr := fun i => r3.frozen i
                    go_simp
                    refine hK.out _ _ ?_
                    clear hK K
                    try simp only [Act.put, List.setIfInBounds_toArray, List.set_cons_zero, List.set_cons_succ]
                    refine wpAnyZ_done (by kernel_rfl) ?_ _
                    have r5 := r3.put8 (.int .i64 own') (.int .i64 q2) (.int .i64 ro2) (.int .u64 ep2) (.int .i64 th2) (.int .u64 wd2) (.slice A2 n2 c2) (.int .i64 jr2)
                    have e5 := e3.off8 (g := gr) hne (.int .i64 own') (.int .i64 q2) (.int .i64 ro2) (.int .u64 ep2) (.int .i64 th2) (.int .u64 wd2) (.slice A2 n2 c2) (.int .i64 jr2)
                    have x5 := x3.off8 (g := gr) hgr' (.int .i64 own') (.int .i64 q2) (.int .i64 ro2) (.int .u64 ep2) (.int .i64 th2) (.int .u64 wd2) (.slice A2 n2 c2) (.int .i64 jr2)
                    have o5 := own_put8 ro4 (Nat.lt_succ_self gr) (.int .i64 own') (.int .i64 q2) (.int .i64 ro2) (.int .u64 ep2) (.int .i64 th2) (.int .u64 wd2) (.slice A2 n2 c2) (.int .i64 jr2)
                    have B5 := below_put8 B3 (g := gr) hgr (.int .i64 own') (.int .i64 q2) (.int .i64 ro2) (.int .u64 ep2) (.int .i64 th2) (.int .u64 wd2) (.slice A2 n2 c2) (.int .i64 jr2)
                    generalize ((((((((wu.setCell ⟨gr, 0, none⟩ (.int .i64 own')).setCell ⟨gr, 1, none⟩ (.int .i64 q2)).setCell ⟨gr, 2, none⟩ (.int .i64 ro2)).setCell ⟨gr, 3, none⟩ (.int .u64 ep2)).setCell ⟨gr, 4, none⟩ (.int .i64 th2)).setCell ⟨gr, 5, none⟩ (.int .u64 wd2)).setCell ⟨gr, 6, none⟩ (.slice A2 n2 c2)).setCell ⟨gr, 7, none⟩ (.int .i64 jr2)) = w5 at *
                    clear fr r3 e3 x3 ro4 B3
                    go_wp2_with fail
                    go_roundw
                    case measure => simp [intOf]; omega
                    case rel => exact ⟨k + 1, ⟨q2, oc2, ep2, th2, wd2, evn, ju2⟩, A2, c2, by go_num, by omega, OK2.out, by simp only [HE2.out]; exact e5, by simp only [HO2.out, HL2.out, HN2.out, HJ2.out]; exact r5, by simp only [HL2.out, HN2.out]; exact o5, x5, B5⟩
                  exact AllReadyZ.nil
                exact AllReadyZ.nil
              exact AllReadyZ.nil
            exact AllReadyZ.nil
          · obtain rfl : k = n := by omega
            have hkn : ¬ ((k : Int) < (k : Int)) := by omega
            clear TB
            go_wp2_with fail
            go_roundw
            case measure => (simp [intOf] <;> omega)
            case rel => exact ⟨k + 1, ⟨0, oc, ep, th, wd, ev, ju⟩, AR, cR, by go_num, by omega, HOK.out, by simp only [HE1.out]; exact he, by simp only [HRO2.out, HL1.out, HN1.out, HJ1.out]; exact hr, by simp only [HL1.out, HN1.out]; exact hrow, hx, hb⟩
      · skip
        have oe := ho.symm
        subst oe hb0
        clear ho
        go_wp2_with fail
        refine (D.out _).mono ?_
        rintro e wD ⟨rfl, hbd⟩
        replace he := he.below hbd he.lt
        replace hr := hr.below hbd hr.lt
        replace hx := hx.below hbd hx.lt
        replace hrow := own_below hrow hbd
        replace hb := hb.trans (hbd.mono hb.size)
        clear hbd ce cr le lr
        have ce := fun i => he.cell i
        have cr := fun i => hr.cell i
        have cx := fun i => hx.cell i
        have le := he.lt
        have lr := hr.lt
        have lx := hx.lt
        go_wp2_with fail
        clear ce cr cx le lr lx D
        replace he := he.drew
        replace hr := hr.drew
        replace hx := hx.drew
        replace hrow := hrow.drew
        replace hb := hb.drew
        go_region_held3 (fun w' => (w'.cell? ⟨ge, 0, none⟩ = some (.int .i64 s') ∧ w'.cell? ⟨ge, 1, none⟩ = some (.int .i64 t') ∧ w'.cell? ⟨ge, 2, none⟩ = some (.int .i64 f') ∧ w'.cell? ⟨ge, 3, none⟩ = some (.int .i64 l') ∧ w'.cell? ⟨ge, 4, none⟩ = some (.int .i64 p') ∧ w'.cell? ⟨ge, 5, none⟩ = some (.int .i64 own') ∧ w'.cell? ⟨ge, 6, none⟩ = some (.int .i64 q) ∧ w'.cell? ⟨ge, 7, none⟩ = some (.int .i64 oc) ∧ w'.cell? ⟨ge, 8, none⟩ = some (.int .u64 ep) ∧ w'.cell? ⟨ge, 9, none⟩ = some (.int .i64 th) ∧ w'.cell? ⟨ge, 10, none⟩ = some (.int .u64 wd) ∧ w'.cell? ⟨ge, 11, none⟩ = some (.int .u64 ev') ∧ w'.cell? ⟨ge, 12, none⟩ = some (.int .i64 ju)) ∧ (w'.cell? ⟨gr, 0, none⟩ = some (.int .i64 own') ∧ w'.cell? ⟨gr, 1, none⟩ = some (.int .i64 q) ∧ w'.cell? ⟨gr, 2, none⟩ = some (.int .i64 ro) ∧ w'.cell? ⟨gr, 3, none⟩ = some (.int .u64 ep) ∧ w'.cell? ⟨gr, 4, none⟩ = some (.int .i64 th) ∧ w'.cell? ⟨gr, 5, none⟩ = some (.int .u64 wd) ∧ w'.cell? ⟨gr, 6, none⟩ = some (.slice AR nL cR) ∧ w'.cell? ⟨gr, 7, none⟩ = some (.int .i64 jr)) ∧ (w'.cell? ⟨w.heap.size, 0, none⟩ = some (.int .i64 s) ∧ w'.cell? ⟨w.heap.size, 1, none⟩ = some (.int .i64 t) ∧ w'.cell? ⟨w.heap.size, 2, none⟩ = some (.int .i64 f) ∧ w'.cell? ⟨w.heap.size, 3, none⟩ = some (.int .i64 l) ∧ w'.cell? ⟨w.heap.size, 4, none⟩ = some (.int .i64 p))) (with_reducible exact ⟨cells13 he, cells8 hr, cells5 hx⟩) ((first | (go_at_call 10; refine (W1.out _).mono ?_; rintro e w1 ⟨rfl, hb1⟩; have he := he.below hb1 he.lt; have hr := hr.below hb1 hr.lt; have hx := hx.below hb1 hx.lt; have hrow := own_below hrow hb1; have hb := hb.trans (hb1.mono hb.size); clear hb1) | (go_at_call 13; refine (W2.out _ _ _).mono ?_; rintro e w1 ⟨rfl, hb1⟩; have he := he.below hb1 he.lt; have hr := hr.below hb1 hr.lt; have hx := hx.below hb1 hx.lt; have hrow := own_below hrow hb1; have hb := hb.trans (hb1.mono hb.size); clear hb1) | (go_at_call 14; refine (E1.out _).mono ?_; rintro e w1 ⟨rfl, hb1⟩; have he := he.below hb1 he.lt; have hr := hr.below hb1 hr.lt; have hx := hx.below hb1 hx.lt; have hrow := own_below hrow hb1; have hb := hb.trans (hb1.mono hb.size); clear hb1) | (go_at_call 11; refine (J1.out _).mono ?_; rintro e w1 ⟨rfl, hb1⟩; have he := he.below hb1 he.lt; have hr := hr.below hb1 hr.lt; have hx := hx.below hb1 hx.lt; have hrow := own_below hrow hb1; have hb := hb.trans (hb1.mono hb.size); clear hb1) | (go_at_call 16; refine (V1.out _).mono ?_; rintro e w1 ⟨⟨A1, c1, rfl, ro1⟩, hb1⟩; have he := he.below hb1 he.lt; have hr := hr.below hb1 hr.lt; have hx := hx.below hb1 hx.lt; have hrow := own_below hrow hb1; have hb := hb.trans (hb1.mono hb.size); clear hb1) | (go_at_call 15; refine (Ints_eq _ _ _ _ _ L _ HN.out (Reads.of_own ro1) (Reads.of_own hrow)).mono ?_; rintro e w1 ⟨rfl, hb1⟩; have he := he.below hb1 he.lt; have hr := hr.below hb1 hr.lt; have hx := hx.below hb1 hx.lt; have hrow := own_below hrow hb1; have hb := hb.trans (hb1.mono hb.size); clear hb1)))
        all_goals
          clear Q W1 W2 E1 J1 V1 HN
          by_cases hlt : k < n
          · obtain ⟨a, rfl, hkl, z1⟩ := (HR.out.below hb).word hlt
            have hg := HW.out _ (List.getElem_mem hkl)
            obtain ⟨x2, T1, T2, OK2⟩ := TB.out l0[k] hg
            obtain ⟨q2, oc2, ep2, th2, wd2, evn, ju2⟩ := x2
            unfold RaTook raV at T2
            simp only at T1 T2
            replace OK2 := hide OK2
            generalize hro2 : rO ⟨q2, oc2, ep2, th2, wd2, evn, ju2⟩ = ro2 at *
            generalize hL2 : evL evn 64 = L2 at *
            generalize hn2 : L2.length = n2 at *
            generalize hev2 : (evn : Int) = ev2 at *
            generalize hjr2 : ju2 - 1 = jr2 at *
            have HO2 := hide hro2
            have HL2 := hide hL2
            have HN2 := hide hn2
            have HE2 := hide hev2
            have HJ2 := hide hjr2
            clear hro2 hL2 hn2 hev2 hjr2
            replace T1 := hide T1
            replace T2 := hide T2
            generalize hG : l0[k] = g at *
            have ZK := hide (show ∀ w2, Below w.heap.size w w2 → w2.cell? (a.add k) = some (.int .u64 g) from fun w2 hB => by
              obtain ⟨a', ea, _, zz⟩ := (HR.out.below hB).word hlt
              injection ea with ea
              subst ea
              rw [hG] at zz
              exact zz)
            clear hG z1
            have hkn : (k : Int) < (n : Int) := by omega
            go_wp2_with fail
            replace he := he.drew
            replace hr := hr.drew
            replace hx := hx.drew
            replace hrow := hrow.drew
            replace hb := hb.drew
            refine wp_region_heldZ [6] (fun w' => (w'.cell? ⟨ge, 0, none⟩ = some (.int .i64 s') ∧ w'.cell? ⟨ge, 1, none⟩ = some (.int .i64 t') ∧ w'.cell? ⟨ge, 2, none⟩ = some (.int .i64 f') ∧ w'.cell? ⟨ge, 3, none⟩ = some (.int .i64 l') ∧ w'.cell? ⟨ge, 4, none⟩ = some (.int .i64 p') ∧ w'.cell? ⟨ge, 5, none⟩ = some (.int .i64 own') ∧ w'.cell? ⟨ge, 6, none⟩ = some (.int .i64 q) ∧ w'.cell? ⟨ge, 7, none⟩ = some (.int .i64 oc) ∧ w'.cell? ⟨ge, 8, none⟩ = some (.int .u64 ep) ∧ w'.cell? ⟨ge, 9, none⟩ = some (.int .i64 th) ∧ w'.cell? ⟨ge, 10, none⟩ = some (.int .u64 wd) ∧ w'.cell? ⟨ge, 11, none⟩ = some (.int .u64 ev') ∧ w'.cell? ⟨ge, 12, none⟩ = some (.int .i64 ju)) ∧ w'.cell? (a.add k) = some (.int .u64 g)) (by kernel_rfl) (by exact ⟨cells13 he, ZK.out _ hb⟩) (fun hHeld => ?_)
            refine' wpAnyZ_takeA (i := 0) (v := ?_) (opAt rfl) (by kernel_rfl) (by kernel_rfl) (by kernel_rfl) (by kernel_rfl) (fun _ _ _ h => h) (by assumption) (by rfl) (fun w hSw => ?_) ?_
            rotate_left
            · (try dsimp only at hSw); go_simp; (try with_reducible rfl)
            try simp only [Act.put, List.setIfInBounds_toArray, List.set_cons_zero, List.set_cons_succ]
            refine' wpAnyZ_takeA (i := 1) (v := ?_) (opAt rfl) (by kernel_rfl) (by kernel_rfl) (by kernel_rfl) (by kernel_rfl) (fun _ _ _ h => h) (by assumption) (by rfl) (fun w hSw => ?_) ?_
            rotate_left
            · (try dsimp only at hSw); go_simp; (try with_reducible rfl)
            try simp only [Act.put, List.setIfInBounds_toArray, List.set_cons_zero, List.set_cons_succ]
            refine' wpAnyZ_takeA (i := 2) (v := ?_) (opAt rfl) (by kernel_rfl) (by kernel_rfl) (by kernel_rfl) (by kernel_rfl) (fun _ _ _ h => h) (by assumption) (by rfl) (fun w hSw => ?_) ?_
            rotate_left
            · (try dsimp only at hSw); go_simp; (try with_reducible rfl)
            try simp only [Act.put, List.setIfInBounds_toArray, List.set_cons_zero, List.set_cons_succ]
            refine' wpAnyZ_takeA (i := 3) (v := ?_) (opAt rfl) (by kernel_rfl) (by kernel_rfl) (by kernel_rfl) (by kernel_rfl) (fun _ _ _ h => h) (by assumption) (by rfl) (fun w hSw => ?_) ?_
            rotate_left
            · (try dsimp only at hSw); go_simp; (try with_reducible rfl)
            try simp only [Act.put, List.setIfInBounds_toArray, List.set_cons_zero, List.set_cons_succ]
            refine' wpAnyZ_takeA (i := 4) (v := ?_) (opAt rfl) (by kernel_rfl) (by kernel_rfl) (by kernel_rfl) (by kernel_rfl) (fun _ _ _ h => h) (by assumption) (by rfl) (fun w hSw => ?_) ?_
            rotate_left
            · (try dsimp only at hSw); go_simp; (try with_reducible rfl)
            try simp only [Act.put, List.setIfInBounds_toArray, List.set_cons_zero, List.set_cons_succ]
            refine wpAnyZ_ready (rs := [5]) (by kernel_rfl) (by simp) ?_
            refine AllReadyZ.cons (opAt rfl) (fun K hK => ?_) ?_
            · skip
              go_simp
              refine (T1.out _).mono ?_
              rintro e wt ⟨rfl, hbt⟩
              replace he := he.below hbt he.lt
              replace hr := hr.below hbt hr.lt
              replace hx := hx.below hbt hx.lt
              replace hrow := own_below hrow hbt
              replace hb := hb.trans (hbt.mono hb.size)
              clear hbt
              try go_wp2_with fail
              refine hK.out _ _ (by exact ⟨cells13 he, ZK.out _ hb⟩) (fun hHeld => ?_)
              clear hK K
              try simp only [Act.put, List.setIfInBounds_toArray, List.set_cons_zero, List.set_cons_succ]
              refine wpAnyZ_ready (rs := [6]) (by kernel_rfl) (by simp) ?_
              refine AllReadyZ.last (opAt rfl) (by kernel_rfl) (fun K hK => ?_) ?_
              · skip
                have fe := fun i => he.frozen i
                go_simp
                refine hK.out _ _ ?_
                clear hK K
                try simp only [Act.put, List.setIfInBounds_toArray, List.set_cons_zero, List.set_cons_succ]
                refine wpAnyZ_done (by kernel_rfl) ?_ _
                have e3 := he.put13 (.int .i64 s') (.int .i64 t') (.int .i64 f') (.int .i64 l') (.int .i64 p') (.int .i64 own') (.int .i64 q2) (.int .i64 oc2) (.int .u64 ep2) (.int .i64 th2) (.int .u64 wd2) (.int .u64 ev2) (.int .i64 ju2)
                have r3 := hr.off13 (g := ge) (Ne.symm hne) (.int .i64 s') (.int .i64 t') (.int .i64 f') (.int .i64 l') (.int .i64 p') (.int .i64 own') (.int .i64 q2) (.int .i64 oc2) (.int .u64 ep2) (.int .i64 th2) (.int .u64 wd2) (.int .u64 ev2) (.int .i64 ju2)
                have x3 := hx.off13 (g := ge) hge' (.int .i64 s') (.int .i64 t') (.int .i64 f') (.int .i64 l') (.int .i64 p') (.int .i64 own') (.int .i64 q2) (.int .i64 oc2) (.int .u64 ep2) (.int .i64 th2) (.int .u64 wd2) (.int .u64 ev2) (.int .i64 ju2)
                have o3 := own_put13 hrow hlt' (.int .i64 s') (.int .i64 t') (.int .i64 f') (.int .i64 l') (.int .i64 p') (.int .i64 own') (.int .i64 q2) (.int .i64 oc2) (.int .u64 ep2) (.int .i64 th2) (.int .u64 wd2) (.int .u64 ev2) (.int .i64 ju2)
                have B3 := below_put13 hb (g := ge) hge (.int .i64 s') (.int .i64 t') (.int .i64 f') (.int .i64 l') (.int .i64 p') (.int .i64 own') (.int .i64 q2) (.int .i64 oc2) (.int .u64 ep2) (.int .i64 th2) (.int .u64 wd2) (.int .u64 ev2) (.int .i64 ju2)
                generalize (((((((((((((wt.setCell ⟨ge, 0, none⟩ (.int .i64 s')).setCell ⟨ge, 1, none⟩ (.int .i64 t')).setCell ⟨ge, 2, none⟩ (.int .i64 f')).setCell ⟨ge, 3, none⟩ (.int .i64 l')).setCell ⟨ge, 4, none⟩ (.int .i64 p')).setCell ⟨ge, 5, none⟩ (.int .i64 own')).setCell ⟨ge, 6, none⟩ (.int .i64 q2)).setCell ⟨ge, 7, none⟩ (.int .i64 oc2)).setCell ⟨ge, 8, none⟩ (.int .u64 ep2)).setCell ⟨ge, 9, none⟩ (.int .i64 th2)).setCell ⟨ge, 10, none⟩ (.int .u64 wd2)).setCell ⟨ge, 11, none⟩ (.int .u64 ev2)).setCell ⟨ge, 12, none⟩ (.int .i64 ju2)) = w3 at *
                clear fe he hr hx hrow hb
                go_wp2_with fail
                replace e3 := e3.drew
                replace r3 := r3.drew
                replace x3 := x3.drew
                replace o3 := o3.drew
                replace B3 := B3.drew
                refine wp_region_heldZ [7] (fun w' => (w'.cell? ⟨w.heap.size, 0, none⟩ = some (.int .i64 s) ∧ w'.cell? ⟨w.heap.size, 1, none⟩ = some (.int .i64 t) ∧ w'.cell? ⟨w.heap.size, 2, none⟩ = some (.int .i64 f) ∧ w'.cell? ⟨w.heap.size, 3, none⟩ = some (.int .i64 l) ∧ w'.cell? ⟨w.heap.size, 4, none⟩ = some (.int .i64 p)) ∧ (w'.cell? ⟨gr, 0, none⟩ = some (.int .i64 own') ∧ w'.cell? ⟨gr, 1, none⟩ = some (.int .i64 q) ∧ w'.cell? ⟨gr, 2, none⟩ = some (.int .i64 ro) ∧ w'.cell? ⟨gr, 3, none⟩ = some (.int .u64 ep) ∧ w'.cell? ⟨gr, 4, none⟩ = some (.int .i64 th) ∧ w'.cell? ⟨gr, 5, none⟩ = some (.int .u64 wd) ∧ w'.cell? ⟨gr, 6, none⟩ = some (.slice AR nL cR) ∧ w'.cell? ⟨gr, 7, none⟩ = some (.int .i64 jr)) ∧ w'.cell? (a.add k) = some (.int .u64 g)) (by kernel_rfl) (by exact ⟨cells5 x3, cells8 r3, ZK.out _ B3⟩) (fun hHeld => ?_)
                refine' wpAnyZ_takeA (i := 0) (v := ?_) (opAt rfl) (by kernel_rfl) (by kernel_rfl) (by kernel_rfl) (by kernel_rfl) (fun _ _ _ h => h) (by assumption) (by rfl) (fun w hSw => ?_) ?_
                rotate_left
                · (try dsimp only at hSw); go_simp; (try with_reducible rfl)
                try simp only [Act.put, List.setIfInBounds_toArray, List.set_cons_zero, List.set_cons_succ]
                refine' wpAnyZ_takeA (i := 1) (v := ?_) (opAt rfl) (by kernel_rfl) (by kernel_rfl) (by kernel_rfl) (by kernel_rfl) (fun _ _ _ h => h) (by assumption) (by rfl) (fun w hSw => ?_) ?_
                rotate_left
                · (try dsimp only at hSw); go_simp; (try with_reducible rfl)
                try simp only [Act.put, List.setIfInBounds_toArray, List.set_cons_zero, List.set_cons_succ]
                refine' wpAnyZ_takeA (i := 2) (v := ?_) (opAt rfl) (by kernel_rfl) (by kernel_rfl) (by kernel_rfl) (by kernel_rfl) (fun _ _ _ h => h) (by assumption) (by rfl) (fun w hSw => ?_) ?_
                rotate_left
                · (try dsimp only at hSw); go_simp; (try with_reducible rfl)
                try simp only [Act.put, List.setIfInBounds_toArray, List.set_cons_zero, List.set_cons_succ]
                refine' wpAnyZ_takeA (i := 3) (v := ?_) (opAt rfl) (by kernel_rfl) (by kernel_rfl) (by kernel_rfl) (by kernel_rfl) (fun _ _ _ h => h) (by assumption) (by rfl) (fun w hSw => ?_) ?_
                rotate_left
                · (try dsimp only at hSw); go_simp; (try with_reducible rfl)
                try simp only [Act.put, List.setIfInBounds_toArray, List.set_cons_zero, List.set_cons_succ]
                refine' wpAnyZ_takeA (i := 4) (v := ?_) (opAt rfl) (by kernel_rfl) (by kernel_rfl) (by kernel_rfl) (by kernel_rfl) (fun _ _ _ h => h) (by assumption) (by rfl) (fun w hSw => ?_) ?_
                rotate_left
                · (try dsimp only at hSw); go_simp; (try with_reducible rfl)
                try simp only [Act.put, List.setIfInBounds_toArray, List.set_cons_zero, List.set_cons_succ]
                refine' wpAnyZ_takeA (i := 5) (v := ?_) (opAt rfl) (by kernel_rfl) (by kernel_rfl) (by kernel_rfl) (by kernel_rfl) (fun _ _ _ h => h) (by assumption) (by rfl) (fun w hSw => ?_) ?_
                rotate_left
                · (try dsimp only at hSw); go_simp; (try with_reducible rfl)
                try simp only [Act.put, List.setIfInBounds_toArray, List.set_cons_zero, List.set_cons_succ]
                refine wpAnyZ_ready (rs := [6]) (by kernel_rfl) (by simp) ?_
                refine AllReadyZ.cons (opAt rfl) (fun K hK => ?_) ?_
                · skip
                  go_simp
                  refine (T2.out AR cR (gr + 1) _ (show gr + 1 ≤ w3.drew.heap.size from r3.lt) o3).mono ?_
                  rintro e wu ⟨⟨A2, c2, rfl, ro4⟩, hbu⟩
                  replace e3 := e3.below hbu e3.lt
                  replace r3 := r3.below hbu r3.lt
                  replace x3 := x3.below hbu x3.lt
                  replace B3 := B3.trans (hbu.mono B3.size)
                  clear hbu o3
                  try go_wp2_with fail
                  refine hK.out _ _ (by exact ⟨cells5 x3, cells8 r3, ZK.out _ B3⟩) (fun hHeld => ?_)
                  clear hK K
                  try simp only [Act.put, List.setIfInBounds_toArray, List.set_cons_zero, List.set_cons_succ]
                  refine wpAnyZ_ready (rs := [7]) (by kernel_rfl) (by simp) ?_
                  refine AllReadyZ.last (opAt rfl) (by kernel_rfl) (fun K hK => ?_) ?_
                  · skip
                    have fr := fun i => r3.frozen i
                    go_simp
                    refine hK.out _ _ ?_
                    clear hK K
                    try simp only [Act.put, List.setIfInBounds_toArray, List.set_cons_zero, List.set_cons_succ]
                    refine wpAnyZ_done (by kernel_rfl) ?_ _
                    have r5 := r3.put8 (.int .i64 own') (.int .i64 q2) (.int .i64 ro2) (.int .u64 ep2) (.int .i64 th2) (.int .u64 wd2) (.slice A2 n2 c2) (.int .i64 jr2)
                    have e5 := e3.off8 (g := gr) hne (.int .i64 own') (.int .i64 q2) (.int .i64 ro2) (.int .u64 ep2) (.int .i64 th2) (.int .u64 wd2) (.slice A2 n2 c2) (.int .i64 jr2)
                    have x5 := x3.off8 (g := gr) hgr' (.int .i64 own') (.int .i64 q2) (.int .i64 ro2) (.int .u64 ep2) (.int .i64 th2) (.int .u64 wd2) (.slice A2 n2 c2) (.int .i64 jr2)
                    have o5 := own_put8 ro4 (Nat.lt_succ_self gr) (.int .i64 own') (.int .i64 q2) (.int .i64 ro2) (.int .u64 ep2) (.int .i64 th2) (.int .u64 wd2) (.slice A2 n2 c2) (.int .i64 jr2)
                    have B5 := below_put8 B3 (g := gr) hgr (.int .i64 own') (.int .i64 q2) (.int .i64 ro2) (.int .u64 ep2) (.int .i64 th2) (.int .u64 wd2) (.slice A2 n2 c2) (.int .i64 jr2)
                    generalize ((((((((wu.setCell ⟨gr, 0, none⟩ (.int .i64 own')).setCell ⟨gr, 1, none⟩ (.int .i64 q2)).setCell ⟨gr, 2, none⟩ (.int .i64 ro2)).setCell ⟨gr, 3, none⟩ (.int .u64 ep2)).setCell ⟨gr, 4, none⟩ (.int .i64 th2)).setCell ⟨gr, 5, none⟩ (.int .u64 wd2)).setCell ⟨gr, 6, none⟩ (.slice A2 n2 c2)).setCell ⟨gr, 7, none⟩ (.int .i64 jr2)) = w5 at *
                    clear fr r3 e3 x3 ro4 B3
                    go_wp2_with fail
                    go_roundw
                    case measure => simp [intOf]; omega
                    case rel => exact ⟨k + 1, ⟨q2, oc2, ep2, th2, wd2, evn, ju2⟩, A2, c2, by go_num, by omega, OK2.out, by simp only [HE2.out]; exact e5, by simp only [HO2.out, HL2.out, HN2.out, HJ2.out]; exact r5, by simp only [HL2.out, HN2.out]; exact o5, x5, B5⟩
                  exact AllReadyZ.nil
                exact AllReadyZ.nil
              exact AllReadyZ.nil
            exact AllReadyZ.nil
          · obtain rfl : k = n := by omega
            have hkn : ¬ ((k : Int) < (k : Int)) := by omega
            clear TB
            go_wp2_with fail
            go_roundw
            case measure => (simp [intOf] <;> omega)
            case rel => exact ⟨k + 1, ⟨q, oc, ep, th, wd, ev, ju⟩, AR, cR, by go_num, by omega, HOK.out, by simp only [HE1.out]; exact he, by simp only [HRO2.out, HL1.out, HN1.out, HJ1.out]; exact hr, by simp only [HL1.out, HN1.out]; exact hrow, hx, hb⟩
    · obtain rfl : k = n + 1 := by omega
      have hkz : ¬ (((n + 1 : Nat) : Int) ≤ (n : Int)) := by omega
      have HB := hide hb
      clear he hr hx hb hok hrow
      go_wp2_with fail
      refine (Aw.out _ HB.out).mono ?_
      rintro e w9 ⟨rfl, hb9⟩
      go_wp2_with fail
      go_ret
      exact ⟨rfl, HB.out.trans (hb9.mono HB.out.size)⟩
end Go.Proofs.YtglbgddjahenjaaDoor
