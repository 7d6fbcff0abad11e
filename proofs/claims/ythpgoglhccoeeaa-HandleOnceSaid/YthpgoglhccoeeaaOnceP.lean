/-
  handle.Once and gleaningref03.Once.
-/
import Derived.Test.YthpgoglhccoeeaaMapOne
import Derived.Test.YthpgoglhccoeeaaHdlC
import Derived.Test.YthpgoglhccoeeaaWords
import Derived.Test.YthpgoglhccoeeaaHeldC
import Derived.Test.YthpgoglhccoeeaaHeldB
import Derived.WalkSpells
namespace Go.Proofs.Ythpgoglhccoeeaa
open Go.RowKit Go.Maps

def sameK (x y : Int) : Bool := x % 1099511627776 == y % 1099511627776
def onceR : List Int → List Int
  | [] => []
  | x :: t => if t.any (sameK x) then onceR t else onceR t ++ [x]
def onceL (l : List Int) : List Int := onceR l.reverse
theorem onceL_snoc (l : List Int) (x : Int) : onceL (l ++ [x]) = if l.any (sameK x) then onceL l else onceL l ++ [x] := by
  unfold onceL
  rw [List.reverse_append, List.reverse_singleton, List.singleton_append, onceR, List.any_reverse]
theorem onceR_len : ∀ l : List Int, (onceR l).length ≤ l.length
  | [] => Nat.le_refl _
  | x :: t => by
    have := onceR_len t
    unfold onceR
    split
    · simp; omega
    · simp; omega
theorem onceL_len (l : List Int) : (onceL l).length ≤ l.length := by
  have := onceR_len l.reverse
  simpa [onceL] using this
def cntK (l : List Int) (a b : Int) : Int := (l.filter (fun x => hsl x == a && hgn x == b)).length
theorem cntK_bd (l : List Int) (a b : Int) : 0 ≤ cntK l a b ∧ cntK l a b ≤ l.length := by
  unfold cntK
  have := List.length_filter_le (fun x => hsl x == a && hgn x == b) l
  omega
theorem cntK_snoc (l : List Int) (x : Int) : cntK (l ++ [x]) = upd2 (cntK l) (hsl x) (hgn x) (cntK l (hsl x) (hgn x) + 1) := by
  funext p q
  unfold cntK upd2
  rw [List.filter_append, List.length_append]
  by_cases h : p = hsl x ∧ q = hgn x
  · rw [if_pos h, h.1, h.2]
    simp
  · rw [if_neg h]
    have : (hsl x == p && hgn x == q) = false := by
      rw [Bool.and_eq_false_iff]
      by_cases h1 : p = hsl x
      · exact .inr (by simp; intro e; exact h ⟨h1, e.symm⟩)
      · exact .inl (by simp; intro e; exact h1 e.symm)
    simp [this]
theorem same_iff {x y : Int} : (hsl y == hsl x && hgn y == hgn x) = sameK x y := by
  have : (hsl y = hsl x ∧ hgn y = hgn x) ↔ x % 1099511627776 = y % 1099511627776 := by unfold hsl hgn; omega
  unfold sameK
  rw [Bool.eq_iff_iff]
  simpa using this
theorem cnt_zero {l : List Int} {x : Int} : cntK l (hsl x) (hgn x) = 0 ↔ l.any (sameK x) = false := by
  unfold cntK
  rw [List.any_eq_false]
  constructor
  · intro h y hy
    have h0 : (l.filter (fun z => hsl z == hsl x && hgn z == hgn x)).length = 0 := by omega
    have := List.filter_eq_nil_iff.1 (List.eq_nil_of_length_eq_zero h0) y hy
    rw [same_iff] at this
    exact this
  · intro h
    have : l.filter (fun z => hsl z == hsl x && hgn z == hgn x) = [] := List.filter_eq_nil_iff.2 fun y hy => by rw [same_iff]; exact h y hy
    rw [this]; rfl
theorem wfI {a : Int} (h : 0 ≤ a ∧ a ≤ 100000) : (Lit.int .i64 a).wf = true := by
  exact WalkArith.wf_i64 (by omega)
theorem wfU {a : Int} (h : 0 ≤ a ∧ a ≤ 16777216) : (Lit.int .u64 a).wf = true := WalkArith.wf_u64 (by omega)

theorem infoU : (Try.prog.info? 22).map (fun i => (i.zero, i.size, i.bytes)) = some (some (.int .u64 0), 1, 8) := by kernel_rfl
def OnceIn (n : Nat) (l : List Int) (w : World) (v1 i : Value) (wr : World) : Prop :=
  ∃ (k : Nat) (A1 : Option Addr) (n1 c1 : Nat), i = .int .i64 k ∧ k ≤ n ∧ v1 = .slice A1 n1 c1 ∧ Below w.heap.size w wr ∧ n1 = (onceL (l.take k)).length ∧
    wr.ownsRow (w.heap.size + 1) 22 1 (.slice A1 n1 c1) n1 (ints .u64 (onceL (l.take k))) ∧ MapC wr w.heap.size k (cntK (l.take k)) ∧ w.heap.size + 1 ≤ wr.heap.size
theorem own_ne1 {w : World} {B n : Nat} {e : TypeId} {s : Nat} {xs : List Value} {v : Value} (h : w.ownsRow (B + 1) e s v n xs) : v.ownBlock ≠ some B := fun e => by
  have := (h.lt B e).1
  omega
set_option maxRecDepth 100000 in
set_option maxHeartbeats 4000000 in
theorem once_any (A : Option Addr) (n c : Nat) (l : List Int) (w : World) (hn : n ≤ 1000) (hl : l.length = n) (hr : Reads w w.heap.size 1 A n (ints .u64 l)) (hw : ∀ x ∈ l, W64 x) :
    Calls Try.prog 21 #[.slice A n c] w fun e w' => (∃ v, e = .returned v ∧ ∃ m, w'.ownsRow w.heap.size 22 1 v m (ints .u64 (onceL l))) ∧ Below w.heap.size w w' := by
  obtain ⟨i0, hi0, hz0, hs0, hb0⟩ := info_parts infoU
  have hmm := @run_makeMap Try.prog
  have Hl := hide hl
  clear hl
  go_enter Try.func21, Try.ntmps21
  go_wp2_with fail
  go_loopw [4, 11] (OnceIn n l w) (fun _ i _ => n - (intOf i).toNat)
  case atStart => exact ⟨0, none, 0, 0, rfl, by omega, rfl, (Below.refl _ _).alloc (Nat.le_refl _) _, rfl, World.ownsRow_nil _ _ _ _, MapC.made w, by rw [World.size_alloc]; exact Nat.le_refl _⟩
  case round =>
    obtain ⟨k, A1, n1, c1, rfl, hk, rfl, hb, hn1, hown, hM, hsz⟩ := hrel
    have Hn1 := hide hn1
    have Hon := hide (onceL_len (l.take k))
    clear hn1
    by_cases hlt : k < n
    · obtain ⟨a, rfl, hkl, z1⟩ := (hr.below hb).word hlt
      have Htk := hide (take_snoc' l k hkl)
      have hm1 : n1 ≤ 4294967296 := by rw [Hn1.out]; have := Hon.out; have := List.length_take_le k l; omega
      have hx := hw _ (List.getElem_mem hkl)
      have cb := cntK_bd (l.take k) (hsl l[k]) (hgn l[k])
      have cl := List.length_take_le k l
      have Hz := hide (@cnt_zero (l.take k) l[k])
      have Hs := hide (onceL_snoc (l.take k) l[k])
      have W0 := hide (wfI (a := hsl l[k]) (by unfold hsl; omega))
      have W1 := hide (wfU (a := hgn l[k]) (by unfold hgn; omega))
      have C1 := hide (fun w2 => hslot_any l[k] w2 hx)
      have C2 := hide (fun w2 => hgen_any l[k] w2 hx)
      generalize l[k] = x at *
      obtain ⟨p0, hp0⟩ : ∃ p, p = hsl x := ⟨_, rfl⟩
      obtain ⟨p1, hp1⟩ : ∃ p, p = hgn x := ⟨_, rfl⟩
      rw [← hp0, ← hp1] at cb Hz
      rw [← hp0] at W0 C1
      rw [← hp1] at W1 C2
      obtain ⟨cnt, hcnt⟩ : ∃ q, q = cntK (l.take k) p0 p1 := ⟨_, rfl⟩
      rw [← hcnt] at cb Hz
      have hlk := fun w2 (hM : MapC w2 w.heap.size k (cntK (l.take k))) => hM.look p0 p1 W0.out W1.out
      rw [← hcnt] at hlk
      have Hlk := hide hlk
      have Hp0 := hide hp0.symm
      have Hp1 := hide hp1.symm
      have Hcnt := hide hcnt.symm
      have W2 := hide (wfI (a := cnt + 1) (by omega))
      have hw1 : IntKind.i64.wrap (cnt + 1) = cnt + 1 := IntWalk.i64_in _ (by omega)
      have hx0 := hx.1
      have hx1 := hx.2
      clear hp0 hp1 hcnt hx hlk
      go_wp2_with fail
      refine (C1.out _).mono ?_
      rintro e w' ⟨rfl, rfl⟩
      go_wp2_with fail
      refine (C2.out _).mono ?_
      rintro e w' ⟨rfl, rfl⟩
      by_cases h0 : cnt = 0
      · have Hf := hide ((congrArg onceL Htk.out).trans (Hs.out.trans (if_neg (by rw [Hz.out.1 h0]; simp))))
        have h0' : (cnt == 0) = true := by simpa using h0
        have H0 := hide h0
        clear h0
        have hlk := Hlk.out _ (hM.alloc (.cells #[.int .i64 p0, .int .u64 p1] 52))
        have ho1 := (hown.alloc (.cells #[.int .i64 p0, .int .u64 p1] 52)).alloc (.cells #[.int .u64 x] 22)
        go_wp2_with (at_builtin; refine wpList_append_one rfl (.tmp 24) (.tmp 26) _ rfl (w.heap.size + 1) 22 i0 _ 1 8 Try.underlying36 hi0 hz0 hs0 hb0 rfl (by omega) (by omega) (.slice A1 n1 c1) n1 _ rfl ho1 (wr.heap.size + 1) #[.int .u64 x] rfl (by have h9 := Blk.new (wr.alloc (.cells #[.int .i64 p0, .int .u64 p1] 52)) 22 #[.int .u64 x]; rw [World.size_alloc] at h9; exact h9) rfl rfl hm1 (by simp; omega) ?_; intro A3 c3 wR hown3 hg3 hat3)
        have bx := ((Blk.new wr 52 #[.int .i64 p0, .int .u64 p1]).alloc (.cells #[.int .u64 x] 22)).grown hg3 (own_blk_ne ho1 ((Blk.new wr 52 #[.int .i64 p0, .int .u64 p1]).alloc (.cells #[.int .u64 x] 22)) (by decide)).symm
        replace hM := ((hM.alloc (.cells #[.int .i64 p0, .int .u64 p1] 52)).alloc (.cells #[.int .u64 x] 22)).kept hg3 (own_ne1 ho1).symm
        replace hb := below_appended ((hb.alloc hb.size (.cells #[.int .i64 p0, .int .u64 p1] 52)).alloc (by rw [World.size_alloc]; have := hb.size; omega) (.cells #[.int .u64 x] 22)) ho1 hg3 (by omega) (by rw [World.size_alloc, World.size_alloc]; have := hb.size; omega)
        have HXM := hide (show some wr.heap.size ≠ some w.heap.size by simp; omega)
        replace hsz := Nat.le_trans (show w.heap.size + 1 ≤ ((wr.alloc (.cells #[.int .i64 p0, .int .u64 p1] 52)).alloc (.cells #[.int .u64 x] 22)).heap.size by rw [World.size_alloc, World.size_alloc]; omega) hg3.size
        replace hown := hown3
        clear hown3 hg3 hat3 ho1 hlk z1
        generalize wr.heap.size = gx at *
        clear Hlk Hz Hs C1 C2 hm1
        have Hf2 := hide (cntK_snoc (l.take k) x)
        generalize cntK (l.take k) = f at *
        refine wp_region_heldZ [] (fun w' => w'.cell? ⟨gx, 0, none⟩ = some (.int .i64 p0) ∧ w'.cell? ⟨gx, 1, none⟩ = some (.int .u64 p1)) (by kernel_rfl) (by exact ⟨bx.cell 0, bx.cell 1⟩) (fun hHeld => ?_)
        replace hM := hM.drew
        replace hown := hown.drew
        replace bx := bx.drew
        replace hb := hb.drew
        replace hsz := (show w.heap.size + 1 ≤ wR.drew.heap.size from hsz)
        generalize wR.drew = w0x at *
        refine' wpAnyZ_takeA (i := 0) (v := ?_) (opAt rfl) (by kernel_rfl) (by kernel_rfl) (by kernel_rfl) (by kernel_rfl) (fun _ _ _ h => h) (by assumption) (by rfl) (fun w hSw => ?_) ?_
        rotate_left
        · (try dsimp only at hSw); go_simp; (try with_reducible rfl)
        try simp only [Act.put, List.setIfInBounds_toArray, List.set_cons_zero, List.set_cons_succ]
        refine' wpAnyZ_takeA (i := 1) (v := ?_) (opAt rfl) (by kernel_rfl) (by kernel_rfl) (by kernel_rfl) (by kernel_rfl) (fun _ _ _ h => h) (by assumption) (by rfl) (fun w hSw => ?_) ?_
        rotate_left
        · (try dsimp only at hSw); go_simp; (try with_reducible rfl)
        try simp only [Act.put, List.setIfInBounds_toArray, List.set_cons_zero, List.set_cons_succ]
        refine wpAnyZ_ready (rs := [2, 4]) (by kernel_rfl) (by simp) ?_
        refine AllReadyZ.cons (opAt rfl) (fun K hK => ?_) ?_
        · skip
          have hlk := hM.look p0 p1 W0.out W1.out
          rw [Hcnt.out] at hlk
          go_simp
          clear hlk
          refine hK.out _ _ (by exact ⟨bx.cell 0, bx.cell 1⟩) (fun hHeld => ?_)
          clear hK K
          try simp only [Act.put, List.setIfInBounds_toArray, List.set_cons_zero, List.set_cons_succ]
          refine wpAnyZ_ready (rs := [3, 4]) (by kernel_rfl) (by simp) ?_
          refine AllReadyZ.cons (opAt rfl) (fun K hK => ?_) ?_
          · skip
            go_simp
            refine hK.out _ _ (by exact ⟨bx.cell 0, bx.cell 1⟩) (fun hHeld => ?_)
            clear hK K
            try simp only [Act.put, List.setIfInBounds_toArray, List.set_cons_zero, List.set_cons_succ]
            refine wpAnyZ_ready (rs := [4]) (by kernel_rfl) (by simp) ?_
            refine AllReadyZ.cons (opAt rfl) (fun K hK => ?_) ?_
            · skip
              obtain ⟨st, wE, hent, hM1, hg1, hst⟩ := hM.entry (by unfold maxLen; omega) p0 p1 W0.out W1.out
              rw [Hcnt.out] at hent
              go_simp
              replace bx := bx.grown hg1 HXM.out
              have hne9 := own_ne1 hown
              replace hown := hown.kept hg1 (.inr hne9)
              replace hb := hb.grown hg1 hb.size (fun j hj => by injection hj with hj; omega)
              replace hsz := Nat.le_trans hsz hg1.size
              replace hM := hM1
              clear hg1 hM1 hne9
              clear hent
              refine hK.out _ _ (by exact ⟨bx.cell 0, bx.cell 1⟩) (fun hHeld => ?_)
              clear hK K
              try simp only [Act.put, List.setIfInBounds_toArray, List.set_cons_zero, List.set_cons_succ]
              refine wpAnyZ_ready (rs := [5]) (by kernel_rfl) (by simp) ?_
              refine AllReadyZ.cons (opAt rfl) (fun K hK => ?_) ?_
              · skip
                go_simp
                refine hK.out _ _ (by exact ⟨bx.cell 0, bx.cell 1⟩) (fun hHeld => ?_)
                clear hK K
                try simp only [Act.put, List.setIfInBounds_toArray, List.set_cons_zero, List.set_cons_succ]
                refine wpAnyZ_ready (rs := [6]) (by kernel_rfl) (by simp) ?_
                refine AllReadyZ.cons (opAt rfl) (fun K hK => ?_) ?_
                · skip
                  obtain ⟨wS, hsto, hM1, hg1⟩ := hst (cnt + 1) W2.out
                  rw [show goInt (st : Int) = .int .i64 (st : Int) from rfl] at hsto
                  go_simp
                  replace bx := bx.grown hg1 HXM.out
                  have hne9 := own_ne1 hown
                  replace hown := hown.kept hg1 (.inr hne9)
                  replace hb := hb.grown hg1 hb.size (fun j hj => by injection hj with hj; omega)
                  replace hsz := Nat.le_trans hsz hg1.size
                  replace hM := hM1
                  clear hg1 hM1 hne9
                  clear hsto
                  refine hK.out _ _ (by exact ⟨bx.cell 0, bx.cell 1⟩) (fun hHeld => ?_)
                  clear hK K
                  try simp only [Act.put, List.setIfInBounds_toArray, List.set_cons_zero, List.set_cons_succ]
                  refine wpAnyZ_done (by kernel_rfl) ?_ _
                  go_wp2_with fail
                  go_roundw
                  case measure => simp [intOf]; omega
                  case rel => exact ⟨k + 1, _, _, _, by go_num, by omega, rfl, hb, by rw [Hf.out]; first | exact Hn1.out | (rw [List.length_append, ← Hn1.out]; rfl), by rw [Hf.out, ints_append]; exact hown, (by rw [Htk.out, Hf2.out, Hp0.out, Hp1.out, Hcnt.out]; exact hM.mono (by omega)), hsz⟩
                exact AllReadyZ.nil
              exact AllReadyZ.nil
            exact AllReadyZ.nil
          refine AllReadyZ.cons (opAt rfl) (fun K hK => ?_) ?_
          · skip
            obtain ⟨st, wE, hent, hM1, hg1, hst⟩ := hM.entry (by unfold maxLen; omega) p0 p1 W0.out W1.out
            rw [Hcnt.out] at hent
            go_simp
            replace bx := bx.grown hg1 HXM.out
            have hne9 := own_ne1 hown
            replace hown := hown.kept hg1 (.inr hne9)
            replace hb := hb.grown hg1 hb.size (fun j hj => by injection hj with hj; omega)
            replace hsz := Nat.le_trans hsz hg1.size
            replace hM := hM1
            clear hg1 hM1 hne9
            clear hent
            refine hK.out _ _ (by exact ⟨bx.cell 0, bx.cell 1⟩) (fun hHeld => ?_)
            clear hK K
            try simp only [Act.put, List.setIfInBounds_toArray, List.set_cons_zero, List.set_cons_succ]
            refine wpAnyZ_ready (rs := [3, 5]) (by kernel_rfl) (by simp) ?_
            refine AllReadyZ.cons (opAt rfl) (fun K hK => ?_) ?_
            · skip
              go_simp
              refine hK.out _ _ (by exact ⟨bx.cell 0, bx.cell 1⟩) (fun hHeld => ?_)
              clear hK K
              try simp only [Act.put, List.setIfInBounds_toArray, List.set_cons_zero, List.set_cons_succ]
              refine wpAnyZ_ready (rs := [5]) (by kernel_rfl) (by simp) ?_
              refine AllReadyZ.cons (opAt rfl) (fun K hK => ?_) ?_
              · skip
                go_simp
                refine hK.out _ _ (by exact ⟨bx.cell 0, bx.cell 1⟩) (fun hHeld => ?_)
                clear hK K
                try simp only [Act.put, List.setIfInBounds_toArray, List.set_cons_zero, List.set_cons_succ]
                refine wpAnyZ_ready (rs := [6]) (by kernel_rfl) (by simp) ?_
                refine AllReadyZ.cons (opAt rfl) (fun K hK => ?_) ?_
                · skip
                  obtain ⟨wS, hsto, hM1, hg1⟩ := hst (cnt + 1) W2.out
                  rw [show goInt (st : Int) = .int .i64 (st : Int) from rfl] at hsto
                  go_simp
                  replace bx := bx.grown hg1 HXM.out
                  have hne9 := own_ne1 hown
                  replace hown := hown.kept hg1 (.inr hne9)
                  replace hb := hb.grown hg1 hb.size (fun j hj => by injection hj with hj; omega)
                  replace hsz := Nat.le_trans hsz hg1.size
                  replace hM := hM1
                  clear hg1 hM1 hne9
                  clear hsto
                  refine hK.out _ _ (by exact ⟨bx.cell 0, bx.cell 1⟩) (fun hHeld => ?_)
                  clear hK K
                  try simp only [Act.put, List.setIfInBounds_toArray, List.set_cons_zero, List.set_cons_succ]
                  refine wpAnyZ_done (by kernel_rfl) ?_ _
                  go_wp2_with fail
                  go_roundw
                  case measure => simp [intOf]; omega
                  case rel => exact ⟨k + 1, _, _, _, by go_num, by omega, rfl, hb, by rw [Hf.out]; first | exact Hn1.out | (rw [List.length_append, ← Hn1.out]; rfl), by rw [Hf.out, ints_append]; exact hown, (by rw [Htk.out, Hf2.out, Hp0.out, Hp1.out, Hcnt.out]; exact hM.mono (by omega)), hsz⟩
                exact AllReadyZ.nil
              exact AllReadyZ.nil
            refine AllReadyZ.cons (opAt rfl) (fun K hK => ?_) ?_
            · skip
              go_simp
              refine hK.out _ _ (by exact ⟨bx.cell 0, bx.cell 1⟩) (fun hHeld => ?_)
              clear hK K
              try simp only [Act.put, List.setIfInBounds_toArray, List.set_cons_zero, List.set_cons_succ]
              refine wpAnyZ_ready (rs := [3]) (by kernel_rfl) (by simp) ?_
              refine AllReadyZ.cons (opAt rfl) (fun K hK => ?_) ?_
              · skip
                go_simp
                refine hK.out _ _ (by exact ⟨bx.cell 0, bx.cell 1⟩) (fun hHeld => ?_)
                clear hK K
                try simp only [Act.put, List.setIfInBounds_toArray, List.set_cons_zero, List.set_cons_succ]
                refine wpAnyZ_ready (rs := [6]) (by kernel_rfl) (by simp) ?_
                refine AllReadyZ.cons (opAt rfl) (fun K hK => ?_) ?_
                · skip
                  obtain ⟨wS, hsto, hM1, hg1⟩ := hst (cnt + 1) W2.out
                  rw [show goInt (st : Int) = .int .i64 (st : Int) from rfl] at hsto
                  go_simp
                  replace bx := bx.grown hg1 HXM.out
                  have hne9 := own_ne1 hown
                  replace hown := hown.kept hg1 (.inr hne9)
                  replace hb := hb.grown hg1 hb.size (fun j hj => by injection hj with hj; omega)
                  replace hsz := Nat.le_trans hsz hg1.size
                  replace hM := hM1
                  clear hg1 hM1 hne9
                  clear hsto
                  refine hK.out _ _ (by exact ⟨bx.cell 0, bx.cell 1⟩) (fun hHeld => ?_)
                  clear hK K
                  try simp only [Act.put, List.setIfInBounds_toArray, List.set_cons_zero, List.set_cons_succ]
                  refine wpAnyZ_done (by kernel_rfl) ?_ _
                  go_wp2_with fail
                  go_roundw
                  case measure => simp [intOf]; omega
                  case rel => exact ⟨k + 1, _, _, _, by go_num, by omega, rfl, hb, by rw [Hf.out]; first | exact Hn1.out | (rw [List.length_append, ← Hn1.out]; rfl), by rw [Hf.out, ints_append]; exact hown, (by rw [Htk.out, Hf2.out, Hp0.out, Hp1.out, Hcnt.out]; exact hM.mono (by omega)), hsz⟩
                exact AllReadyZ.nil
              exact AllReadyZ.nil
            exact AllReadyZ.nil
          exact AllReadyZ.nil
        refine AllReadyZ.cons (opAt rfl) (fun K hK => ?_) ?_
        · skip
          obtain ⟨st, wE, hent, hM1, hg1, hst⟩ := hM.entry (by unfold maxLen; omega) p0 p1 W0.out W1.out
          rw [Hcnt.out] at hent
          go_simp
          replace bx := bx.grown hg1 HXM.out
          have hne9 := own_ne1 hown
          replace hown := hown.kept hg1 (.inr hne9)
          replace hb := hb.grown hg1 hb.size (fun j hj => by injection hj with hj; omega)
          replace hsz := Nat.le_trans hsz hg1.size
          replace hM := hM1
          clear hg1 hM1 hne9
          clear hent
          refine hK.out _ _ (by exact ⟨bx.cell 0, bx.cell 1⟩) (fun hHeld => ?_)
          clear hK K
          try simp only [Act.put, List.setIfInBounds_toArray, List.set_cons_zero, List.set_cons_succ]
          refine wpAnyZ_ready (rs := [2, 5]) (by kernel_rfl) (by simp) ?_
          refine AllReadyZ.cons (opAt rfl) (fun K hK => ?_) ?_
          · skip
            have hlk := hM.look p0 p1 W0.out W1.out
            rw [Hcnt.out] at hlk
            go_simp
            clear hlk
            refine hK.out _ _ (by exact ⟨bx.cell 0, bx.cell 1⟩) (fun hHeld => ?_)
            clear hK K
            try simp only [Act.put, List.setIfInBounds_toArray, List.set_cons_zero, List.set_cons_succ]
            refine wpAnyZ_ready (rs := [3, 5]) (by kernel_rfl) (by simp) ?_
            refine AllReadyZ.cons (opAt rfl) (fun K hK => ?_) ?_
            · skip
              go_simp
              refine hK.out _ _ (by exact ⟨bx.cell 0, bx.cell 1⟩) (fun hHeld => ?_)
              clear hK K
              try simp only [Act.put, List.setIfInBounds_toArray, List.set_cons_zero, List.set_cons_succ]
              refine wpAnyZ_ready (rs := [5]) (by kernel_rfl) (by simp) ?_
              refine AllReadyZ.cons (opAt rfl) (fun K hK => ?_) ?_
              · skip
                go_simp
                refine hK.out _ _ (by exact ⟨bx.cell 0, bx.cell 1⟩) (fun hHeld => ?_)
                clear hK K
                try simp only [Act.put, List.setIfInBounds_toArray, List.set_cons_zero, List.set_cons_succ]
                refine wpAnyZ_ready (rs := [6]) (by kernel_rfl) (by simp) ?_
                refine AllReadyZ.cons (opAt rfl) (fun K hK => ?_) ?_
                · skip
                  obtain ⟨wS, hsto, hM1, hg1⟩ := hst (cnt + 1) W2.out
                  rw [show goInt (st : Int) = .int .i64 (st : Int) from rfl] at hsto
                  go_simp
                  replace bx := bx.grown hg1 HXM.out
                  have hne9 := own_ne1 hown
                  replace hown := hown.kept hg1 (.inr hne9)
                  replace hb := hb.grown hg1 hb.size (fun j hj => by injection hj with hj; omega)
                  replace hsz := Nat.le_trans hsz hg1.size
                  replace hM := hM1
                  clear hg1 hM1 hne9
                  clear hsto
                  refine hK.out _ _ (by exact ⟨bx.cell 0, bx.cell 1⟩) (fun hHeld => ?_)
                  clear hK K
                  try simp only [Act.put, List.setIfInBounds_toArray, List.set_cons_zero, List.set_cons_succ]
                  refine wpAnyZ_done (by kernel_rfl) ?_ _
                  go_wp2_with fail
                  go_roundw
                  case measure => simp [intOf]; omega
                  case rel => exact ⟨k + 1, _, _, _, by go_num, by omega, rfl, hb, by rw [Hf.out]; first | exact Hn1.out | (rw [List.length_append, ← Hn1.out]; rfl), by rw [Hf.out, ints_append]; exact hown, (by rw [Htk.out, Hf2.out, Hp0.out, Hp1.out, Hcnt.out]; exact hM.mono (by omega)), hsz⟩
                exact AllReadyZ.nil
              exact AllReadyZ.nil
            refine AllReadyZ.cons (opAt rfl) (fun K hK => ?_) ?_
            · skip
              go_simp
              refine hK.out _ _ (by exact ⟨bx.cell 0, bx.cell 1⟩) (fun hHeld => ?_)
              clear hK K
              try simp only [Act.put, List.setIfInBounds_toArray, List.set_cons_zero, List.set_cons_succ]
              refine wpAnyZ_ready (rs := [3]) (by kernel_rfl) (by simp) ?_
              refine AllReadyZ.cons (opAt rfl) (fun K hK => ?_) ?_
              · skip
                go_simp
                refine hK.out _ _ (by exact ⟨bx.cell 0, bx.cell 1⟩) (fun hHeld => ?_)
                clear hK K
                try simp only [Act.put, List.setIfInBounds_toArray, List.set_cons_zero, List.set_cons_succ]
                refine wpAnyZ_ready (rs := [6]) (by kernel_rfl) (by simp) ?_
                refine AllReadyZ.cons (opAt rfl) (fun K hK => ?_) ?_
                · skip
                  obtain ⟨wS, hsto, hM1, hg1⟩ := hst (cnt + 1) W2.out
                  rw [show goInt (st : Int) = .int .i64 (st : Int) from rfl] at hsto
                  go_simp
                  replace bx := bx.grown hg1 HXM.out
                  have hne9 := own_ne1 hown
                  replace hown := hown.kept hg1 (.inr hne9)
                  replace hb := hb.grown hg1 hb.size (fun j hj => by injection hj with hj; omega)
                  replace hsz := Nat.le_trans hsz hg1.size
                  replace hM := hM1
                  clear hg1 hM1 hne9
                  clear hsto
                  refine hK.out _ _ (by exact ⟨bx.cell 0, bx.cell 1⟩) (fun hHeld => ?_)
                  clear hK K
                  try simp only [Act.put, List.setIfInBounds_toArray, List.set_cons_zero, List.set_cons_succ]
                  refine wpAnyZ_done (by kernel_rfl) ?_ _
                  go_wp2_with fail
                  go_roundw
                  case measure => simp [intOf]; omega
                  case rel => exact ⟨k + 1, _, _, _, by go_num, by omega, rfl, hb, by rw [Hf.out]; first | exact Hn1.out | (rw [List.length_append, ← Hn1.out]; rfl), by rw [Hf.out, ints_append]; exact hown, (by rw [Htk.out, Hf2.out, Hp0.out, Hp1.out, Hcnt.out]; exact hM.mono (by omega)), hsz⟩
                exact AllReadyZ.nil
              exact AllReadyZ.nil
            exact AllReadyZ.nil
          refine AllReadyZ.cons (opAt rfl) (fun K hK => ?_) ?_
          · skip
            go_simp
            refine hK.out _ _ (by exact ⟨bx.cell 0, bx.cell 1⟩) (fun hHeld => ?_)
            clear hK K
            try simp only [Act.put, List.setIfInBounds_toArray, List.set_cons_zero, List.set_cons_succ]
            refine wpAnyZ_ready (rs := [2]) (by kernel_rfl) (by simp) ?_
            refine AllReadyZ.cons (opAt rfl) (fun K hK => ?_) ?_
            · skip
              have hlk := hM.look p0 p1 W0.out W1.out
              rw [Hcnt.out] at hlk
              go_simp
              clear hlk
              refine hK.out _ _ (by exact ⟨bx.cell 0, bx.cell 1⟩) (fun hHeld => ?_)
              clear hK K
              try simp only [Act.put, List.setIfInBounds_toArray, List.set_cons_zero, List.set_cons_succ]
              refine wpAnyZ_ready (rs := [3]) (by kernel_rfl) (by simp) ?_
              refine AllReadyZ.cons (opAt rfl) (fun K hK => ?_) ?_
              · skip
                go_simp
                refine hK.out _ _ (by exact ⟨bx.cell 0, bx.cell 1⟩) (fun hHeld => ?_)
                clear hK K
                try simp only [Act.put, List.setIfInBounds_toArray, List.set_cons_zero, List.set_cons_succ]
                refine wpAnyZ_ready (rs := [6]) (by kernel_rfl) (by simp) ?_
                refine AllReadyZ.cons (opAt rfl) (fun K hK => ?_) ?_
                · skip
                  obtain ⟨wS, hsto, hM1, hg1⟩ := hst (cnt + 1) W2.out
                  rw [show goInt (st : Int) = .int .i64 (st : Int) from rfl] at hsto
                  go_simp
                  replace bx := bx.grown hg1 HXM.out
                  have hne9 := own_ne1 hown
                  replace hown := hown.kept hg1 (.inr hne9)
                  replace hb := hb.grown hg1 hb.size (fun j hj => by injection hj with hj; omega)
                  replace hsz := Nat.le_trans hsz hg1.size
                  replace hM := hM1
                  clear hg1 hM1 hne9
                  clear hsto
                  refine hK.out _ _ (by exact ⟨bx.cell 0, bx.cell 1⟩) (fun hHeld => ?_)
                  clear hK K
                  try simp only [Act.put, List.setIfInBounds_toArray, List.set_cons_zero, List.set_cons_succ]
                  refine wpAnyZ_done (by kernel_rfl) ?_ _
                  go_wp2_with fail
                  go_roundw
                  case measure => simp [intOf]; omega
                  case rel => exact ⟨k + 1, _, _, _, by go_num, by omega, rfl, hb, by rw [Hf.out]; first | exact Hn1.out | (rw [List.length_append, ← Hn1.out]; rfl), by rw [Hf.out, ints_append]; exact hown, (by rw [Htk.out, Hf2.out, Hp0.out, Hp1.out, Hcnt.out]; exact hM.mono (by omega)), hsz⟩
                exact AllReadyZ.nil
              exact AllReadyZ.nil
            exact AllReadyZ.nil
          exact AllReadyZ.nil
        exact AllReadyZ.nil
      · have hne : (l.take k).any (sameK x) = true := by
          cases h9 : (l.take k).any (sameK x) with
          | false => exact absurd (Hz.out.2 h9) h0
          | true => rfl
        have Hf := hide ((congrArg onceL Htk.out).trans (Hs.out.trans (if_pos hne)))
        clear hne
        have h0' : (cnt == 0) = false := by simpa using h0
        have H0 := hide h0
        clear h0
        have hlk := Hlk.out _ (hM.alloc (.cells #[.int .i64 p0, .int .u64 p1] 52))
        go_wp2_with fail
        clear hlk
        have bx := Blk.new wr 52 #[.int .i64 p0, .int .u64 p1]
        replace hM := hM.alloc (.cells #[.int .i64 p0, .int .u64 p1] 52)
        replace hb := hb.alloc hb.size (.cells #[.int .i64 p0, .int .u64 p1] 52)
        have HXM := hide (show some wr.heap.size ≠ some w.heap.size by simp; omega)
        replace hown := hown.alloc (.cells #[.int .i64 p0, .int .u64 p1] 52)
        replace hsz := Nat.le_trans hsz (show wr.heap.size ≤ (wr.alloc (.cells #[.int .i64 p0, .int .u64 p1] 52)).heap.size by rw [World.size_alloc]; omega)
        clear z1
        generalize wr.alloc (.cells #[.int .i64 p0, .int .u64 p1] 52) = wR at *
        generalize wr.heap.size = gx at *
        clear Hlk Hz Hs C1 C2 hm1
        have Hf2 := hide (cntK_snoc (l.take k) x)
        generalize cntK (l.take k) = f at *
        refine wp_region_heldZ [] (fun w' => w'.cell? ⟨gx, 0, none⟩ = some (.int .i64 p0) ∧ w'.cell? ⟨gx, 1, none⟩ = some (.int .u64 p1)) (by kernel_rfl) (by exact ⟨bx.cell 0, bx.cell 1⟩) (fun hHeld => ?_)
        replace hM := hM.drew
        replace hown := hown.drew
        replace bx := bx.drew
        replace hb := hb.drew
        replace hsz := (show w.heap.size + 1 ≤ wR.drew.heap.size from hsz)
        generalize wR.drew = w0x at *
        refine' wpAnyZ_takeA (i := 0) (v := ?_) (opAt rfl) (by kernel_rfl) (by kernel_rfl) (by kernel_rfl) (by kernel_rfl) (fun _ _ _ h => h) (by assumption) (by rfl) (fun w hSw => ?_) ?_
        rotate_left
        · (try dsimp only at hSw); go_simp; (try with_reducible rfl)
        try simp only [Act.put, List.setIfInBounds_toArray, List.set_cons_zero, List.set_cons_succ]
        refine' wpAnyZ_takeA (i := 1) (v := ?_) (opAt rfl) (by kernel_rfl) (by kernel_rfl) (by kernel_rfl) (by kernel_rfl) (fun _ _ _ h => h) (by assumption) (by rfl) (fun w hSw => ?_) ?_
        rotate_left
        · (try dsimp only at hSw); go_simp; (try with_reducible rfl)
        try simp only [Act.put, List.setIfInBounds_toArray, List.set_cons_zero, List.set_cons_succ]
        refine wpAnyZ_ready (rs := [2, 4]) (by kernel_rfl) (by simp) ?_
        refine AllReadyZ.cons (opAt rfl) (fun K hK => ?_) ?_
        · skip
          have hlk := hM.look p0 p1 W0.out W1.out
          rw [Hcnt.out] at hlk
          go_simp
          clear hlk
          refine hK.out _ _ (by exact ⟨bx.cell 0, bx.cell 1⟩) (fun hHeld => ?_)
          clear hK K
          try simp only [Act.put, List.setIfInBounds_toArray, List.set_cons_zero, List.set_cons_succ]
          refine wpAnyZ_ready (rs := [3, 4]) (by kernel_rfl) (by simp) ?_
          refine AllReadyZ.cons (opAt rfl) (fun K hK => ?_) ?_
          · skip
            go_simp
            refine hK.out _ _ (by exact ⟨bx.cell 0, bx.cell 1⟩) (fun hHeld => ?_)
            clear hK K
            try simp only [Act.put, List.setIfInBounds_toArray, List.set_cons_zero, List.set_cons_succ]
            refine wpAnyZ_ready (rs := [4]) (by kernel_rfl) (by simp) ?_
            refine AllReadyZ.cons (opAt rfl) (fun K hK => ?_) ?_
            · skip
              obtain ⟨st, wE, hent, hM1, hg1, hst⟩ := hM.entry (by unfold maxLen; omega) p0 p1 W0.out W1.out
              rw [Hcnt.out] at hent
              go_simp
              replace bx := bx.grown hg1 HXM.out
              have hne9 := own_ne1 hown
              replace hown := hown.kept hg1 (.inr hne9)
              replace hb := hb.grown hg1 hb.size (fun j hj => by injection hj with hj; omega)
              replace hsz := Nat.le_trans hsz hg1.size
              replace hM := hM1
              clear hg1 hM1 hne9
              clear hent
              refine hK.out _ _ (by exact ⟨bx.cell 0, bx.cell 1⟩) (fun hHeld => ?_)
              clear hK K
              try simp only [Act.put, List.setIfInBounds_toArray, List.set_cons_zero, List.set_cons_succ]
              refine wpAnyZ_ready (rs := [5]) (by kernel_rfl) (by simp) ?_
              refine AllReadyZ.cons (opAt rfl) (fun K hK => ?_) ?_
              · skip
                go_simp
                refine hK.out _ _ (by exact ⟨bx.cell 0, bx.cell 1⟩) (fun hHeld => ?_)
                clear hK K
                try simp only [Act.put, List.setIfInBounds_toArray, List.set_cons_zero, List.set_cons_succ]
                refine wpAnyZ_ready (rs := [6]) (by kernel_rfl) (by simp) ?_
                refine AllReadyZ.cons (opAt rfl) (fun K hK => ?_) ?_
                · skip
                  obtain ⟨wS, hsto, hM1, hg1⟩ := hst (cnt + 1) W2.out
                  rw [show goInt (st : Int) = .int .i64 (st : Int) from rfl] at hsto
                  go_simp
                  replace bx := bx.grown hg1 HXM.out
                  have hne9 := own_ne1 hown
                  replace hown := hown.kept hg1 (.inr hne9)
                  replace hb := hb.grown hg1 hb.size (fun j hj => by injection hj with hj; omega)
                  replace hsz := Nat.le_trans hsz hg1.size
                  replace hM := hM1
                  clear hg1 hM1 hne9
                  clear hsto
                  refine hK.out _ _ (by exact ⟨bx.cell 0, bx.cell 1⟩) (fun hHeld => ?_)
                  clear hK K
                  try simp only [Act.put, List.setIfInBounds_toArray, List.set_cons_zero, List.set_cons_succ]
                  refine wpAnyZ_done (by kernel_rfl) ?_ _
                  go_wp2_with fail
                  go_roundw
                  case measure => simp [intOf]; omega
                  case rel => exact ⟨k + 1, _, _, _, by go_num, by omega, rfl, hb, by rw [Hf.out]; first | exact Hn1.out | (rw [List.length_append, ← Hn1.out]; rfl), by rw [Hf.out]; exact hown, (by rw [Htk.out, Hf2.out, Hp0.out, Hp1.out, Hcnt.out]; exact hM.mono (by omega)), hsz⟩
                exact AllReadyZ.nil
              exact AllReadyZ.nil
            exact AllReadyZ.nil
          refine AllReadyZ.cons (opAt rfl) (fun K hK => ?_) ?_
          · skip
            obtain ⟨st, wE, hent, hM1, hg1, hst⟩ := hM.entry (by unfold maxLen; omega) p0 p1 W0.out W1.out
            rw [Hcnt.out] at hent
            go_simp
            replace bx := bx.grown hg1 HXM.out
            have hne9 := own_ne1 hown
            replace hown := hown.kept hg1 (.inr hne9)
            replace hb := hb.grown hg1 hb.size (fun j hj => by injection hj with hj; omega)
            replace hsz := Nat.le_trans hsz hg1.size
            replace hM := hM1
            clear hg1 hM1 hne9
            clear hent
            refine hK.out _ _ (by exact ⟨bx.cell 0, bx.cell 1⟩) (fun hHeld => ?_)
            clear hK K
            try simp only [Act.put, List.setIfInBounds_toArray, List.set_cons_zero, List.set_cons_succ]
            refine wpAnyZ_ready (rs := [3, 5]) (by kernel_rfl) (by simp) ?_
            refine AllReadyZ.cons (opAt rfl) (fun K hK => ?_) ?_
            · skip
              go_simp
              refine hK.out _ _ (by exact ⟨bx.cell 0, bx.cell 1⟩) (fun hHeld => ?_)
              clear hK K
              try simp only [Act.put, List.setIfInBounds_toArray, List.set_cons_zero, List.set_cons_succ]
              refine wpAnyZ_ready (rs := [5]) (by kernel_rfl) (by simp) ?_
              refine AllReadyZ.cons (opAt rfl) (fun K hK => ?_) ?_
              · skip
                go_simp
                refine hK.out _ _ (by exact ⟨bx.cell 0, bx.cell 1⟩) (fun hHeld => ?_)
                clear hK K
                try simp only [Act.put, List.setIfInBounds_toArray, List.set_cons_zero, List.set_cons_succ]
                refine wpAnyZ_ready (rs := [6]) (by kernel_rfl) (by simp) ?_
                refine AllReadyZ.cons (opAt rfl) (fun K hK => ?_) ?_
                · skip
                  obtain ⟨wS, hsto, hM1, hg1⟩ := hst (cnt + 1) W2.out
                  rw [show goInt (st : Int) = .int .i64 (st : Int) from rfl] at hsto
                  go_simp
                  replace bx := bx.grown hg1 HXM.out
                  have hne9 := own_ne1 hown
                  replace hown := hown.kept hg1 (.inr hne9)
                  replace hb := hb.grown hg1 hb.size (fun j hj => by injection hj with hj; omega)
                  replace hsz := Nat.le_trans hsz hg1.size
                  replace hM := hM1
                  clear hg1 hM1 hne9
                  clear hsto
                  refine hK.out _ _ (by exact ⟨bx.cell 0, bx.cell 1⟩) (fun hHeld => ?_)
                  clear hK K
                  try simp only [Act.put, List.setIfInBounds_toArray, List.set_cons_zero, List.set_cons_succ]
                  refine wpAnyZ_done (by kernel_rfl) ?_ _
                  go_wp2_with fail
                  go_roundw
                  case measure => simp [intOf]; omega
                  case rel => exact ⟨k + 1, _, _, _, by go_num, by omega, rfl, hb, by rw [Hf.out]; first | exact Hn1.out | (rw [List.length_append, ← Hn1.out]; rfl), by rw [Hf.out]; exact hown, (by rw [Htk.out, Hf2.out, Hp0.out, Hp1.out, Hcnt.out]; exact hM.mono (by omega)), hsz⟩
                exact AllReadyZ.nil
              exact AllReadyZ.nil
            refine AllReadyZ.cons (opAt rfl) (fun K hK => ?_) ?_
            · skip
              go_simp
              refine hK.out _ _ (by exact ⟨bx.cell 0, bx.cell 1⟩) (fun hHeld => ?_)
              clear hK K
              try simp only [Act.put, List.setIfInBounds_toArray, List.set_cons_zero, List.set_cons_succ]
              refine wpAnyZ_ready (rs := [3]) (by kernel_rfl) (by simp) ?_
              refine AllReadyZ.cons (opAt rfl) (fun K hK => ?_) ?_
              · skip
                go_simp
                refine hK.out _ _ (by exact ⟨bx.cell 0, bx.cell 1⟩) (fun hHeld => ?_)
                clear hK K
                try simp only [Act.put, List.setIfInBounds_toArray, List.set_cons_zero, List.set_cons_succ]
                refine wpAnyZ_ready (rs := [6]) (by kernel_rfl) (by simp) ?_
                refine AllReadyZ.cons (opAt rfl) (fun K hK => ?_) ?_
                · skip
                  obtain ⟨wS, hsto, hM1, hg1⟩ := hst (cnt + 1) W2.out
                  rw [show goInt (st : Int) = .int .i64 (st : Int) from rfl] at hsto
                  go_simp
                  replace bx := bx.grown hg1 HXM.out
                  have hne9 := own_ne1 hown
                  replace hown := hown.kept hg1 (.inr hne9)
                  replace hb := hb.grown hg1 hb.size (fun j hj => by injection hj with hj; omega)
                  replace hsz := Nat.le_trans hsz hg1.size
                  replace hM := hM1
                  clear hg1 hM1 hne9
                  clear hsto
                  refine hK.out _ _ (by exact ⟨bx.cell 0, bx.cell 1⟩) (fun hHeld => ?_)
                  clear hK K
                  try simp only [Act.put, List.setIfInBounds_toArray, List.set_cons_zero, List.set_cons_succ]
                  refine wpAnyZ_done (by kernel_rfl) ?_ _
                  go_wp2_with fail
                  go_roundw
                  case measure => simp [intOf]; omega
                  case rel => exact ⟨k + 1, _, _, _, by go_num, by omega, rfl, hb, by rw [Hf.out]; first | exact Hn1.out | (rw [List.length_append, ← Hn1.out]; rfl), by rw [Hf.out]; exact hown, (by rw [Htk.out, Hf2.out, Hp0.out, Hp1.out, Hcnt.out]; exact hM.mono (by omega)), hsz⟩
                exact AllReadyZ.nil
              exact AllReadyZ.nil
            exact AllReadyZ.nil
          exact AllReadyZ.nil
        refine AllReadyZ.cons (opAt rfl) (fun K hK => ?_) ?_
        · skip
          obtain ⟨st, wE, hent, hM1, hg1, hst⟩ := hM.entry (by unfold maxLen; omega) p0 p1 W0.out W1.out
          rw [Hcnt.out] at hent
          go_simp
          replace bx := bx.grown hg1 HXM.out
          have hne9 := own_ne1 hown
          replace hown := hown.kept hg1 (.inr hne9)
          replace hb := hb.grown hg1 hb.size (fun j hj => by injection hj with hj; omega)
          replace hsz := Nat.le_trans hsz hg1.size
          replace hM := hM1
          clear hg1 hM1 hne9
          clear hent
          refine hK.out _ _ (by exact ⟨bx.cell 0, bx.cell 1⟩) (fun hHeld => ?_)
          clear hK K
          try simp only [Act.put, List.setIfInBounds_toArray, List.set_cons_zero, List.set_cons_succ]
          refine wpAnyZ_ready (rs := [2, 5]) (by kernel_rfl) (by simp) ?_
          refine AllReadyZ.cons (opAt rfl) (fun K hK => ?_) ?_
          · skip
            have hlk := hM.look p0 p1 W0.out W1.out
            rw [Hcnt.out] at hlk
            go_simp
            clear hlk
            refine hK.out _ _ (by exact ⟨bx.cell 0, bx.cell 1⟩) (fun hHeld => ?_)
            clear hK K
            try simp only [Act.put, List.setIfInBounds_toArray, List.set_cons_zero, List.set_cons_succ]
            refine wpAnyZ_ready (rs := [3, 5]) (by kernel_rfl) (by simp) ?_
            refine AllReadyZ.cons (opAt rfl) (fun K hK => ?_) ?_
            · skip
              go_simp
              refine hK.out _ _ (by exact ⟨bx.cell 0, bx.cell 1⟩) (fun hHeld => ?_)
              clear hK K
              try simp only [Act.put, List.setIfInBounds_toArray, List.set_cons_zero, List.set_cons_succ]
              refine wpAnyZ_ready (rs := [5]) (by kernel_rfl) (by simp) ?_
              refine AllReadyZ.cons (opAt rfl) (fun K hK => ?_) ?_
              · skip
                go_simp
                refine hK.out _ _ (by exact ⟨bx.cell 0, bx.cell 1⟩) (fun hHeld => ?_)
                clear hK K
                try simp only [Act.put, List.setIfInBounds_toArray, List.set_cons_zero, List.set_cons_succ]
                refine wpAnyZ_ready (rs := [6]) (by kernel_rfl) (by simp) ?_
                refine AllReadyZ.cons (opAt rfl) (fun K hK => ?_) ?_
                · skip
                  obtain ⟨wS, hsto, hM1, hg1⟩ := hst (cnt + 1) W2.out
                  rw [show goInt (st : Int) = .int .i64 (st : Int) from rfl] at hsto
                  go_simp
                  replace bx := bx.grown hg1 HXM.out
                  have hne9 := own_ne1 hown
                  replace hown := hown.kept hg1 (.inr hne9)
                  replace hb := hb.grown hg1 hb.size (fun j hj => by injection hj with hj; omega)
                  replace hsz := Nat.le_trans hsz hg1.size
                  replace hM := hM1
                  clear hg1 hM1 hne9
                  clear hsto
                  refine hK.out _ _ (by exact ⟨bx.cell 0, bx.cell 1⟩) (fun hHeld => ?_)
                  clear hK K
                  try simp only [Act.put, List.setIfInBounds_toArray, List.set_cons_zero, List.set_cons_succ]
                  refine wpAnyZ_done (by kernel_rfl) ?_ _
                  go_wp2_with fail
                  go_roundw
                  case measure => simp [intOf]; omega
                  case rel => exact ⟨k + 1, _, _, _, by go_num, by omega, rfl, hb, by rw [Hf.out]; first | exact Hn1.out | (rw [List.length_append, ← Hn1.out]; rfl), by rw [Hf.out]; exact hown, (by rw [Htk.out, Hf2.out, Hp0.out, Hp1.out, Hcnt.out]; exact hM.mono (by omega)), hsz⟩
                exact AllReadyZ.nil
              exact AllReadyZ.nil
            refine AllReadyZ.cons (opAt rfl) (fun K hK => ?_) ?_
            · skip
              go_simp
              refine hK.out _ _ (by exact ⟨bx.cell 0, bx.cell 1⟩) (fun hHeld => ?_)
              clear hK K
              try simp only [Act.put, List.setIfInBounds_toArray, List.set_cons_zero, List.set_cons_succ]
              refine wpAnyZ_ready (rs := [3]) (by kernel_rfl) (by simp) ?_
              refine AllReadyZ.cons (opAt rfl) (fun K hK => ?_) ?_
              · skip
                go_simp
                refine hK.out _ _ (by exact ⟨bx.cell 0, bx.cell 1⟩) (fun hHeld => ?_)
                clear hK K
                try simp only [Act.put, List.setIfInBounds_toArray, List.set_cons_zero, List.set_cons_succ]
                refine wpAnyZ_ready (rs := [6]) (by kernel_rfl) (by simp) ?_
                refine AllReadyZ.cons (opAt rfl) (fun K hK => ?_) ?_
                · skip
                  obtain ⟨wS, hsto, hM1, hg1⟩ := hst (cnt + 1) W2.out
                  rw [show goInt (st : Int) = .int .i64 (st : Int) from rfl] at hsto
                  go_simp
                  replace bx := bx.grown hg1 HXM.out
                  have hne9 := own_ne1 hown
                  replace hown := hown.kept hg1 (.inr hne9)
                  replace hb := hb.grown hg1 hb.size (fun j hj => by injection hj with hj; omega)
                  replace hsz := Nat.le_trans hsz hg1.size
                  replace hM := hM1
                  clear hg1 hM1 hne9
                  clear hsto
                  refine hK.out _ _ (by exact ⟨bx.cell 0, bx.cell 1⟩) (fun hHeld => ?_)
                  clear hK K
                  try simp only [Act.put, List.setIfInBounds_toArray, List.set_cons_zero, List.set_cons_succ]
                  refine wpAnyZ_done (by kernel_rfl) ?_ _
                  go_wp2_with fail
                  go_roundw
                  case measure => simp [intOf]; omega
                  case rel => exact ⟨k + 1, _, _, _, by go_num, by omega, rfl, hb, by rw [Hf.out]; first | exact Hn1.out | (rw [List.length_append, ← Hn1.out]; rfl), by rw [Hf.out]; exact hown, (by rw [Htk.out, Hf2.out, Hp0.out, Hp1.out, Hcnt.out]; exact hM.mono (by omega)), hsz⟩
                exact AllReadyZ.nil
              exact AllReadyZ.nil
            exact AllReadyZ.nil
          refine AllReadyZ.cons (opAt rfl) (fun K hK => ?_) ?_
          · skip
            go_simp
            refine hK.out _ _ (by exact ⟨bx.cell 0, bx.cell 1⟩) (fun hHeld => ?_)
            clear hK K
            try simp only [Act.put, List.setIfInBounds_toArray, List.set_cons_zero, List.set_cons_succ]
            refine wpAnyZ_ready (rs := [2]) (by kernel_rfl) (by simp) ?_
            refine AllReadyZ.cons (opAt rfl) (fun K hK => ?_) ?_
            · skip
              have hlk := hM.look p0 p1 W0.out W1.out
              rw [Hcnt.out] at hlk
              go_simp
              clear hlk
              refine hK.out _ _ (by exact ⟨bx.cell 0, bx.cell 1⟩) (fun hHeld => ?_)
              clear hK K
              try simp only [Act.put, List.setIfInBounds_toArray, List.set_cons_zero, List.set_cons_succ]
              refine wpAnyZ_ready (rs := [3]) (by kernel_rfl) (by simp) ?_
              refine AllReadyZ.cons (opAt rfl) (fun K hK => ?_) ?_
              · skip
                go_simp
                refine hK.out _ _ (by exact ⟨bx.cell 0, bx.cell 1⟩) (fun hHeld => ?_)
                clear hK K
                try simp only [Act.put, List.setIfInBounds_toArray, List.set_cons_zero, List.set_cons_succ]
                refine wpAnyZ_ready (rs := [6]) (by kernel_rfl) (by simp) ?_
                refine AllReadyZ.cons (opAt rfl) (fun K hK => ?_) ?_
                · skip
                  obtain ⟨wS, hsto, hM1, hg1⟩ := hst (cnt + 1) W2.out
                  rw [show goInt (st : Int) = .int .i64 (st : Int) from rfl] at hsto
                  go_simp
                  replace bx := bx.grown hg1 HXM.out
                  have hne9 := own_ne1 hown
                  replace hown := hown.kept hg1 (.inr hne9)
                  replace hb := hb.grown hg1 hb.size (fun j hj => by injection hj with hj; omega)
                  replace hsz := Nat.le_trans hsz hg1.size
                  replace hM := hM1
                  clear hg1 hM1 hne9
                  clear hsto
                  refine hK.out _ _ (by exact ⟨bx.cell 0, bx.cell 1⟩) (fun hHeld => ?_)
                  clear hK K
                  try simp only [Act.put, List.setIfInBounds_toArray, List.set_cons_zero, List.set_cons_succ]
                  refine wpAnyZ_done (by kernel_rfl) ?_ _
                  go_wp2_with fail
                  go_roundw
                  case measure => simp [intOf]; omega
                  case rel => exact ⟨k + 1, _, _, _, by go_num, by omega, rfl, hb, by rw [Hf.out]; first | exact Hn1.out | (rw [List.length_append, ← Hn1.out]; rfl), by rw [Hf.out]; exact hown, (by rw [Htk.out, Hf2.out, Hp0.out, Hp1.out, Hcnt.out]; exact hM.mono (by omega)), hsz⟩
                exact AllReadyZ.nil
              exact AllReadyZ.nil
            exact AllReadyZ.nil
          exact AllReadyZ.nil
        exact AllReadyZ.nil
    · have e : l.take k = l := List.take_of_length_le (by rw [Hl.out]; omega)
      rw [e] at hown
      clear e
      go_wp2_with fail
      go_ret
      exact ⟨⟨_, rfl, _, own_mono hown (by omega)⟩, hb⟩
end Go.Proofs.Ythpgoglhccoeeaa
