/-
  arena.below's closure gives the slots that come of a handle.
-/
import Derived.Test.YtegldbhabeoboaaDoorZ5
import Derived.ProofKit
import Derived.Deep.Slices
import Derived.Deep.Fields
namespace Go.Proofs.YtegldbhabeoboaaDoor
open Go.RowKit Go.Shelf Go.Maps
attribute [local go_sem] Oper.semAt_some

/-- A piece that must end normally. -/
def onlyNt (Q : Exit → Act → World → Prop) : Exit → Act → World → Prop
  | .normal, a, w => Q .normal a w
  | _, _, _ => False
theorem wp_onlyNt {P : Program} {c : Code} {Q : Exit → Act → World → Prop} {a : Act} {w : World} (h : c.wp P (onlyNt Q) a w) : c.wp P Q a w :=
  Code.wp_mono (fun e a w h => by cases e <;> first | exact h | exact h.elim) h
def idxOf (a : Act) : Nat := match a.tmps[41]? with | some (Value.int _ n) => n.toNat | _ => 0
/-- What every step leaves: boxes, the memory, the children, the marks. -/
structure KeepW (gm gw : Nat) (s t f lm p : Int) (ws : List Int) (bmm bs by_ lp : Nat) (vs : List Int) (v : Value) (g5 bm base : Nat) (Ds : List Nat) (W' : World) : Prop where
  M : MemOk W' gm gw s t f lm p ws
  xm : Blk W' bmm 27 #[.pointer (some ⟨gm, 0, none⟩)]
  xs : Blk W' bs 84 #[.map (some bm)]
  xy : Blk W' by_ 62 #[.func (.yield lp) #[] #[]]
  ov : W'.ownsRow by_ 32 1 v vs.length (ints .u64 vs)
  mks : Marks by_ Ds W'
  sz : g5 < W'.heap.size
/-- What holds between two children. -/
structure LoopW (J : List Int → World → Prop) (C : Nat → List Int) (bm gm gw : Nat) (s t f lm p : Int) (ws : List Int) (bmm bs by_ lp : Nat) (vs : List Int) (v : Value) (g5 k : Nat) (Ds : List Nat) (W' : World) : Prop where
  j : J (C k) W'
  mi : MapInt W' bm (C k).length (fun j => decide (j ∈ C k))
  kw : KeepW gm gw s t f lm p ws bmm bs by_ lp vs v g5 bm 0 Ds W'
theorem KeepW.keepX {gm gw bmm bs by_ lp g5 bm base l9 : Nat} {s t f lm p : Int} {ws vs : List Int} {v : Value} {Ds : List Nat} {W W' : World} (h : KeepW gm gw s t f lm p ws bmm bs by_ lp vs v g5 bm base Ds W) (hk : KeepX l9 W W') : KeepW gm gw s t f lm p ws bmm bs by_ lp vs v g5 bm base Ds W' :=
  ⟨h.M.keepX hk, hk.blk h.xm (by decide) (by decide), hk.blk h.xs (by decide) (by decide), hk.blk h.xy (by decide) (by decide), hk.own h.ov (by decide) (by decide), h.mks.keepX hk, Nat.lt_of_lt_of_le h.sz hk.size⟩
theorem KeepW.part {gm gw bmm bs by_ lp g5 bm base n : Nat} {s t f lm p : Int} {ws vs : List Int} {v : Value} {Ds : List Nat} {W W' : World} (h : KeepW gm gw s t f lm p ws bmm bs by_ lp vs v g5 bm base Ds W) (hk : PartN n bm W W') (h1 : gm ≠ bm ∧ gw ≠ bm) (h2 : bmm ≠ bm ∧ bs ≠ bm) (h3 : bm < by_) (hn : ∀ D ∈ Ds, D < n) : KeepW gm gw s t f lm p ws bmm bs by_ lp vs v g5 bm base Ds W' :=
  ⟨h.M.part hk h1.1 h1.2, hk.box h.xm h2.1, hk.box h.xs h2.2, hk.box h.xy (by omega), hk.own h.ov h3, h.mks.part hk h3 hn, Nat.lt_of_lt_of_le h.sz hk.size⟩
theorem onlyNt_normal {Q : Exit → Act → World → Prop} {a : Act} {w : World} (h : Q .normal a w) : onlyNt Q .normal a w := h
set_option maxRecDepth 100000 in
set_option maxHeartbeats 4000000 in
theorem below1_yields (gm gw : Nat) (s t f lm p : Int) (ws : List Int) (hs : 1 ≤ s ∧ s ≤ 1000) (ht : 1 ≤ t ∧ t ≤ 64) (hf : 4 ≤ f ∧ f ≤ 64) (h64 : AllW64 ws) : ∀ (fuel : Nat) (h : Int) (l : List Int) (w : World) (bh bmm bs bm : Nat), W64 h → Nice s l → s.toNat + 1 ≤ l.length + fuel → MemOk w gm gw s t f lm p ws → MapInt w bm l.length (fun j => decide (j ∈ l)) → Blk w bh 32 #[.int .u64 h] → Blk w bmm 27 #[.pointer (some ⟨gm, 0, none⟩)] → Blk w bs 84 #[.map (some bm)] →
    Yields Tryd.prog 90 #[.pointer (some ⟨bh, 0, none⟩), .pointer (some ⟨bmm, 0, none⟩), .pointer (some ⟨bs, 0, none⟩)] bm s.toNat l (comeN (ndOf ws t f) s fuel h l) w (fun W => MapInt W bm (comeN (ndOf ws t f) s fuel h l).length (fun j => decide (j ∈ comeN (ndOf ws t f) s fuel h l))) := by
  intro fuel
  induction fuel with
  | zero =>
    intro h l w bh bmm bs bm _ hN hfu
    have := nice_le hN (by omega)
    omega
  | succ fuel ih =>
    intro h l w bh bmm bs bm hh hN hfu M MI xh xm xs n lp J W hb hlp hJ hY h0
    replace M := M.below hb
    replace MI := MI.below hb
    replace xh := xh.below hb xh.lt
    replace xm := xm.below hb xm.lt
    replace xs := xs.below hb xs.lt
    have PB := (Below.refl W.heap.size W).alloc (Nat.le_refl _) (.cells #[.func (.yield lp) #[] #[]] 62)
    have xy := Blk.new W 62 #[.func (.yield lp) #[] #[]]
    replace xh := xh.alloc (.cells #[.func (.yield lp) #[] #[]] 62)
    replace xm := xm.alloc (.cells #[.func (.yield lp) #[] #[]] 62)
    replace xs := xs.alloc (.cells #[.func (.yield lp) #[] #[]] 62)
    have C1 := hide (fun w2 => hnslot_any h w2 hh)
    have C2 := hide (fun w2 => lconfig_any s t f lm p w2)
    have C3 := hide (fun w2 => hnright_any h s w2 hh)
    have hf0 : ∀ w : World, (Instr.field 23 (.agg #[.int .i64 s, .int .i64 t, .int .i64 f, .int .i64 lm, .int .i64 p]) 0).run Tryd.prog w = .ok (.int .i64 s) w := fun _ => by kernel_rfl
    have hsw : (Lit.int .i64 (hsl h)).wf = true := by
      have : 0 ≤ hsl h ∧ hsl h < 65536 := by unfold hsl; omega
      simp only [Lit.wf, Bool.and_eq_true, decide_eq_true_eq]
      exact ⟨by show (-9223372036854775808 : Int) ≤ hsl h; omega, by show hsl h ≤ (9223372036854775807 : Int); omega⟩
    have HCE := hide (show comeN (ndOf ws t f) s (fuel + 1) h l = if hrt h s = true ∧ hsl h ∉ l then (if ((ndOf ws t f) (hsl h)).1 = true then ((ndOf ws t f) (hsl h)).2.foldl (fun l c => comeN (ndOf ws t f) s fuel c l) (l ++ [hsl h]) else l ++ [hsl h]) else l from rfl)
    have HSL := hide (fun hr => hrt_slot (h := h) (s := s) hr)
    generalize comeN (ndOf ws t f) s (fuel + 1) h l = lout at *
    generalize hsl h = sl at *
    have HS := hide hs
    have HT := hide ht
    have HF := hide hf
    have H64 := hide h64
    have HN := hide hN
    have HFU := hide hfu
    have HJ := hide hJ
    have HY := hide hY
    have H0 := hide h0
    have IH := hide ih
    have HMB := hide (show gm ≠ bm ∧ gw ≠ bm from ⟨MI.blk_ne M.1, MI.blk_ne M.2.1⟩)
    have HXB := hide (show bmm ≠ bm ∧ bs ≠ bm from ⟨(MI.alloc _).blk_ne xm, (MI.alloc _).blk_ne xs⟩)
    have HBM := hide MI.lt
    have HLP := hide hlp
    clear hs ht hf h64 hN hfu hJ hY h0 ih hb hlp
    replace M := M.below PB
    replace MI := MI.alloc (.cells #[.func (.yield lp) #[] #[]] 62)
    refine callsIn_wide.2 ((callsIn_wide (n := 5)).1 ?_)
    have hn : 1 ≤ 5 := by omega
    refine callsIn_of_wp_marks Tryd.func90 rfl trivial ?_ rfl
    simp only [Tryd.ntmps90, List.size_toArray, List.length_cons, List.length_nil, Nat.reduceAdd, Nat.reduceSub, Array.replicate_succ, Array.replicate_zero, List.push_toArray, List.append_toArray, List.nil_append, List.cons_append]
    have mh := xh.cell 0
    gi_wp2
    generalize W.alloc (.cells #[.func (.yield lp) #[] #[]] 62) = W0 at *
    refine ⟨trivial, ?_⟩
    refine (callsIn_wide.2 (C1.out _)).mono ?_
    rintro e w1 ⟨rfl, rfl⟩
    gi_wp2
    clear mh
    refine wpIn_wide.2 ?_
    refine wp_onlyNt ?_
    by_cases hr : ¬ hrt h s = true
    · have hrb : hrt h s = false := by simpa using hr
      have HE := hide (HCE.out.trans (if_neg (fun c => hr c.1)))
      rw [hrb] at C3
      clear hr hrb HCE
      refine wp_region_heldZ [] (fun w' => w'.cell? ⟨bh, 0, none⟩ = some (.int .u64 h) ∧ w'.cell? ⟨bmm, 0, none⟩ = some (.pointer (some ⟨gm, 0, none⟩)) ∧ w'.cell? ⟨bs, 0, none⟩ = some (.map (some bm)) ∧ (w'.cell? ⟨gm, 0, none⟩ = some (.int .i64 s) ∧ w'.cell? ⟨gm, 1, none⟩ = some (.int .i64 t) ∧ w'.cell? ⟨gm, 2, none⟩ = some (.int .i64 f) ∧ w'.cell? ⟨gm, 3, none⟩ = some (.int .i64 lm) ∧ w'.cell? ⟨gm, 4, none⟩ = some (.int .i64 p)) ∧ MapInt w' bm l.length (fun j => decide (j ∈ l))) (by kernel_rfl) (by exact ⟨xh.cell 0, xm.cell 0, xs.cell 0, mem5 M, MI⟩) (fun hHeld => ?_)
      replace xh := xh.drew
      replace xm := xm.drew
      replace xs := xs.drew
      replace xy := xy.drew
      replace M := M.drew
      replace MI := (show MapInt W0.drew _ _ _ from MI)
      replace PB := PB.drew
      generalize W0.drew = W1 at *
      refine' wpAnyZ_takeA (i := 0) (v := ?_) (opAt rfl) (by kernel_rfl) (by kernel_rfl) (by kernel_rfl) (by kernel_rfl) (fun _ _ _ h => h) (by assumption) (by rfl) (fun w hSw => ?_) ?_
      rotate_left
      · (try dsimp only at hSw); go_simp; (try with_reducible rfl)
      try simp only [Act.put, List.setIfInBounds_toArray, List.set_cons_zero, List.set_cons_succ]
      refine' wpAnyZ_takeA (i := 1) (v := ?_) (opAt rfl) (by kernel_rfl) (by kernel_rfl) (by kernel_rfl) (by kernel_rfl) (fun _ _ _ h => h) (by assumption) (by rfl) (fun w hSw => ?_) ?_
      rotate_left
      · (try dsimp only at hSw); go_simp; (try with_reducible rfl)
      try simp only [Act.put, List.setIfInBounds_toArray, List.set_cons_zero, List.set_cons_succ]
      refine' wpAnyZ_takeA (i := 2) (v := ?_) (opAt rfl) (by kernel_rfl) (by kernel_rfl) (by kernel_rfl) (by kernel_rfl) (fun _ _ _ h => h) (by assumption) (by rfl) (fun w hSw => ?_) ?_
      rotate_left
      · (try dsimp only at hSw); go_simp; (try with_reducible rfl)
      try simp only [Act.put, List.setIfInBounds_toArray, List.set_cons_zero, List.set_cons_succ]
      refine' wpAnyZ_takeA (i := 3) (v := ?_) (opAt rfl) (by kernel_rfl) (by kernel_rfl) (by kernel_rfl) (by kernel_rfl) (fun _ _ _ h => h) (by assumption) (by rfl) (fun w hSw => ?_) ?_
      rotate_left
      · (try dsimp only at hSw); go_simp; (try with_reducible rfl)
      try simp only [Act.put, List.setIfInBounds_toArray, List.set_cons_zero, List.set_cons_succ]
      refine' wpAnyZ_takeA (i := 4) (v := ?_) (opAt rfl) (by kernel_rfl) (by kernel_rfl) (by kernel_rfl) (by kernel_rfl) (fun _ _ _ h => h) (by assumption) (by rfl) (fun w hSw => ?_) ?_
      rotate_left
      · (try dsimp only at hSw); go_simp; (try with_reducible rfl)
      try simp only [Act.put, List.setIfInBounds_toArray, List.set_cons_zero, List.set_cons_succ]
      refine wpAnyZ_ready (rs := [5]) (by kernel_rfl) (by simp) ?_
      refine AllReadyZ.cons (opAt rfl) (fun K hK => ?_) ?_
      · skip
        go_simp
        refine (C2.out _).mono ?_
        rintro e w2 ⟨rfl, hb1⟩
        replace M := M.below hb1
        replace MI := MI.below hb1
        replace xh := xh.below hb1 xh.lt
        replace xm := xm.below hb1 xm.lt
        replace xs := xs.below hb1 xs.lt
        replace xy := xy.below hb1 xy.lt
        replace PB := PB.trans (hb1.mono PB.size)
        clear hb1
        try go_wp2_with fail
        refine hK.out _ _ (by exact ⟨xh.cell 0, xm.cell 0, xs.cell 0, mem5 M, MI⟩) (fun hHeld => ?_)
        clear hK K
        try simp only [Act.put, List.setIfInBounds_toArray, List.set_cons_zero, List.set_cons_succ]
        refine' wpAnyZ_takeA (i := 6) (v := ?_) (opAt rfl) (by kernel_rfl) (by kernel_rfl) (by kernel_rfl) (by kernel_rfl) (fun _ _ _ h => h) (by assumption) (by rfl) (fun w hSw => ?_) ?_
        rotate_left
        · (try dsimp only at hSw); go_simp; (try with_reducible rfl)
        try simp only [Act.put, List.setIfInBounds_toArray, List.set_cons_zero, List.set_cons_succ]
        refine wpAnyZ_ready (rs := [7]) (by kernel_rfl) (by simp) ?_
        refine AllReadyZ.cons (opAt rfl) (fun K hK => ?_) ?_
        · skip
          go_simp
          refine (C3.out _).mono ?_
          rintro e w3 ⟨rfl, rfl⟩
          try go_wp2_with fail
          refine hK.out _ _ (by exact ⟨xh.cell 0, xm.cell 0, xs.cell 0, mem5 M, MI⟩) (fun hHeld => ?_)
          clear hK K
          try simp only [Act.put, List.setIfInBounds_toArray, List.set_cons_zero, List.set_cons_succ]
          refine' wpAnyZ_takeA (i := 8) (v := ?_) (opAt rfl) (by kernel_rfl) (by kernel_rfl) (by kernel_rfl) (by kernel_rfl) (fun _ _ _ h => h) (by assumption) (by rfl) (fun w hSw => ?_) ?_
          rotate_left
          · (try dsimp only at hSw); go_simp; (try with_reducible rfl)
          try simp only [Act.put, List.setIfInBounds_toArray, List.set_cons_zero, List.set_cons_succ]
          refine' wpAnyZ_takeA (i := 9) (v := ?_) (opAt rfl) (by kernel_rfl) (by kernel_rfl) (by kernel_rfl) (by kernel_rfl) (fun _ _ _ h => h) (by assumption) (by rfl) (fun w hSw => ?_) ?_
          rotate_left
          · (try dsimp only at hSw); go_simp; (try with_reducible rfl)
          try simp only [Act.put, List.setIfInBounds_toArray, List.set_cons_zero, List.set_cons_succ]
          refine' wpAnyZ_skipA (i := 10) _ rfl (opAt rfl) (by kernel_rfl) (by kernel_rfl) (by kernel_rfl) (by kernel_rfl) (fun _ _ _ h => h) (by assumption) (by rfl) ?_
          try simp only [Act.put, List.setIfInBounds_toArray, List.set_cons_zero, List.set_cons_succ]
          refine' wpAnyZ_skipA (i := 11) _ rfl (opAt rfl) (by kernel_rfl) (by kernel_rfl) (by kernel_rfl) (by kernel_rfl) (fun _ _ _ h => h) (by assumption) (by rfl) ?_
          try simp only [Act.put, List.setIfInBounds_toArray, List.set_cons_zero, List.set_cons_succ]
          refine' wpAnyZ_skipA (i := 12) _ rfl (opAt rfl) (by kernel_rfl) (by kernel_rfl) (by kernel_rfl) (by kernel_rfl) (fun _ _ _ h => h) (by assumption) (by rfl) ?_
          try simp only [Act.put, List.setIfInBounds_toArray, List.set_cons_zero, List.set_cons_succ]
          refine' wpAnyZ_takeA (i := 13) (v := ?_) (opAt rfl) (by kernel_rfl) (by kernel_rfl) (by kernel_rfl) (by kernel_rfl) (fun _ _ _ h => h) (by assumption) (by rfl) (fun w hSw => ?_) ?_
          rotate_left
          · (try dsimp only at hSw); go_simp; (try with_reducible rfl)
          try simp only [Act.put, List.setIfInBounds_toArray, List.set_cons_zero, List.set_cons_succ]
          refine wpAnyZ_done (by kernel_rfl) ?_ _
          refine onlyNt_normal ?_
          have hJ2 := HJ.out _ _ _ H0.out (PartN.of_below PB)
          rw [← HE.out] at hJ2 MI
          clear HJ HY H0 IH
          gi_wp2
          exact ⟨_, results_none rfl _ _ _, ⟨_, rfl⟩, hJ2, MI⟩
        exact AllReadyZ.nil
      exact AllReadyZ.nil
    replace hr : hrt h s = true := by simpa using hr
    rw [hr] at C3
    by_cases hin : sl ∈ l
    · have HE := hide (HCE.out.trans (if_neg (fun c => c.2 hin)))
      have hd : decide (sl ∈ l) = true := by rw [decide_eq_true_iff]; exact hin
      clear HCE hin
      refine wp_region_heldZ [] (fun w' => w'.cell? ⟨bh, 0, none⟩ = some (.int .u64 h) ∧ w'.cell? ⟨bmm, 0, none⟩ = some (.pointer (some ⟨gm, 0, none⟩)) ∧ w'.cell? ⟨bs, 0, none⟩ = some (.map (some bm)) ∧ (w'.cell? ⟨gm, 0, none⟩ = some (.int .i64 s) ∧ w'.cell? ⟨gm, 1, none⟩ = some (.int .i64 t) ∧ w'.cell? ⟨gm, 2, none⟩ = some (.int .i64 f) ∧ w'.cell? ⟨gm, 3, none⟩ = some (.int .i64 lm) ∧ w'.cell? ⟨gm, 4, none⟩ = some (.int .i64 p)) ∧ MapInt w' bm l.length (fun j => decide (j ∈ l))) (by kernel_rfl) (by exact ⟨xh.cell 0, xm.cell 0, xs.cell 0, mem5 M, MI⟩) (fun hHeld => ?_)
      replace xh := xh.drew
      replace xm := xm.drew
      replace xs := xs.drew
      replace xy := xy.drew
      replace M := M.drew
      replace MI := (show MapInt W0.drew _ _ _ from MI)
      replace PB := PB.drew
      generalize W0.drew = W1 at *
      refine' wpAnyZ_takeA (i := 0) (v := ?_) (opAt rfl) (by kernel_rfl) (by kernel_rfl) (by kernel_rfl) (by kernel_rfl) (fun _ _ _ h => h) (by assumption) (by rfl) (fun w hSw => ?_) ?_
      rotate_left
      · (try dsimp only at hSw); go_simp; (try with_reducible rfl)
      try simp only [Act.put, List.setIfInBounds_toArray, List.set_cons_zero, List.set_cons_succ]
      refine' wpAnyZ_takeA (i := 1) (v := ?_) (opAt rfl) (by kernel_rfl) (by kernel_rfl) (by kernel_rfl) (by kernel_rfl) (fun _ _ _ h => h) (by assumption) (by rfl) (fun w hSw => ?_) ?_
      rotate_left
      · (try dsimp only at hSw); go_simp; (try with_reducible rfl)
      try simp only [Act.put, List.setIfInBounds_toArray, List.set_cons_zero, List.set_cons_succ]
      refine' wpAnyZ_takeA (i := 2) (v := ?_) (opAt rfl) (by kernel_rfl) (by kernel_rfl) (by kernel_rfl) (by kernel_rfl) (fun _ _ _ h => h) (by assumption) (by rfl) (fun w hSw => ?_) ?_
      rotate_left
      · (try dsimp only at hSw); go_simp; (try with_reducible rfl)
      try simp only [Act.put, List.setIfInBounds_toArray, List.set_cons_zero, List.set_cons_succ]
      refine' wpAnyZ_takeA (i := 3) (v := ?_) (opAt rfl) (by kernel_rfl) (by kernel_rfl) (by kernel_rfl) (by kernel_rfl) (fun _ _ _ h => h) (by assumption) (by rfl) (fun w hSw => ?_) ?_
      rotate_left
      · (try dsimp only at hSw); go_simp; (try with_reducible rfl)
      try simp only [Act.put, List.setIfInBounds_toArray, List.set_cons_zero, List.set_cons_succ]
      refine' wpAnyZ_takeA (i := 4) (v := ?_) (opAt rfl) (by kernel_rfl) (by kernel_rfl) (by kernel_rfl) (by kernel_rfl) (fun _ _ _ h => h) (by assumption) (by rfl) (fun w hSw => ?_) ?_
      rotate_left
      · (try dsimp only at hSw); go_simp; (try with_reducible rfl)
      try simp only [Act.put, List.setIfInBounds_toArray, List.set_cons_zero, List.set_cons_succ]
      refine wpAnyZ_ready (rs := [5]) (by kernel_rfl) (by simp) ?_
      refine AllReadyZ.cons (opAt rfl) (fun K hK => ?_) ?_
      · skip
        go_simp
        refine (C2.out _).mono ?_
        rintro e w2 ⟨rfl, hb1⟩
        replace M := M.below hb1
        replace MI := MI.below hb1
        replace xh := xh.below hb1 xh.lt
        replace xm := xm.below hb1 xm.lt
        replace xs := xs.below hb1 xs.lt
        replace xy := xy.below hb1 xy.lt
        replace PB := PB.trans (hb1.mono PB.size)
        clear hb1
        try go_wp2_with fail
        refine hK.out _ _ (by exact ⟨xh.cell 0, xm.cell 0, xs.cell 0, mem5 M, MI⟩) (fun hHeld => ?_)
        clear hK K
        try simp only [Act.put, List.setIfInBounds_toArray, List.set_cons_zero, List.set_cons_succ]
        refine' wpAnyZ_takeA (i := 6) (v := ?_) (opAt rfl) (by kernel_rfl) (by kernel_rfl) (by kernel_rfl) (by kernel_rfl) (fun _ _ _ h => h) (by assumption) (by rfl) (fun w hSw => ?_) ?_
        rotate_left
        · (try dsimp only at hSw); go_simp; (try with_reducible rfl)
        try simp only [Act.put, List.setIfInBounds_toArray, List.set_cons_zero, List.set_cons_succ]
        refine wpAnyZ_ready (rs := [7]) (by kernel_rfl) (by simp) ?_
        refine AllReadyZ.cons (opAt rfl) (fun K hK => ?_) ?_
        · skip
          go_simp
          refine (C3.out _).mono ?_
          rintro e w3 ⟨rfl, rfl⟩
          try go_wp2_with fail
          refine hK.out _ _ (by exact ⟨xh.cell 0, xm.cell 0, xs.cell 0, mem5 M, MI⟩) (fun hHeld => ?_)
          clear hK K
          try simp only [Act.put, List.setIfInBounds_toArray, List.set_cons_zero, List.set_cons_succ]
          refine' wpAnyZ_takeA (i := 8) (v := ?_) (opAt rfl) (by kernel_rfl) (by kernel_rfl) (by kernel_rfl) (by kernel_rfl) (fun _ _ _ h => h) (by assumption) (by rfl) (fun w hSw => ?_) ?_
          rotate_left
          · (try dsimp only at hSw); go_simp; (try with_reducible rfl)
          try simp only [Act.put, List.setIfInBounds_toArray, List.set_cons_zero, List.set_cons_succ]
          refine' wpAnyZ_takeA (i := 9) (v := ?_) (opAt rfl) (by kernel_rfl) (by kernel_rfl) (by kernel_rfl) (by kernel_rfl) (fun _ _ _ h => h) (by assumption) (by rfl) (fun w hSw => ?_) ?_
          rotate_left
          · (try dsimp only at hSw); go_simp; (try with_reducible rfl)
          try simp only [Act.put, List.setIfInBounds_toArray, List.set_cons_zero, List.set_cons_succ]
          refine' wpAnyZ_takeA (i := 10) (v := ?_) (opAt rfl) (by kernel_rfl) (by kernel_rfl) (by kernel_rfl) (by kernel_rfl) (fun _ _ _ h => h) (by assumption) (by rfl) (fun w hSw => ?_) ?_
          rotate_left
          · (try dsimp only at hSw); go_simp; (try with_reducible rfl)
          try simp only [Act.put, List.setIfInBounds_toArray, List.set_cons_zero, List.set_cons_succ]
          refine' wpAnyZ_takeA (i := 11) (v := ?_) (opAt rfl) (by kernel_rfl) (by kernel_rfl) (by kernel_rfl) (by kernel_rfl) (fun _ _ _ h => h) (by assumption) (by rfl) (fun w hSw => ?_) ?_
          rotate_left
          · (try dsimp only at hSw); go_simp; (try with_reducible rfl)
          try simp only [Act.put, List.setIfInBounds_toArray, List.set_cons_zero, List.set_cons_succ]
          refine' wpAnyZ_takeA (i := 12) (v := ?_) (opAt rfl) (by kernel_rfl) (by kernel_rfl) (by kernel_rfl) (by kernel_rfl) (fun _ _ _ h => h) (by assumption) (by rfl) (fun w hSw => ?_) ?_
          rotate_left
          · (try dsimp only at hSw); have hlk := hSw.2.2.2.2.look sl hsw; go_simp; (try with_reducible rfl)
          try simp only [Act.put, List.setIfInBounds_toArray, List.set_cons_zero, List.set_cons_succ]
          refine' wpAnyZ_takeA (i := 13) (v := ?_) (opAt rfl) (by kernel_rfl) (by kernel_rfl) (by kernel_rfl) (by kernel_rfl) (fun _ _ _ h => h) (by assumption) (by rfl) (fun w hSw => ?_) ?_
          rotate_left
          · (try dsimp only at hSw); go_simp; (try with_reducible rfl)
          try simp only [Act.put, List.setIfInBounds_toArray, List.set_cons_zero, List.set_cons_succ]
          refine wpAnyZ_done (by kernel_rfl) ?_ _
          refine onlyNt_normal ?_
          have hJ2 := HJ.out _ _ _ H0.out (PartN.of_below PB)
          rw [← HE.out] at hJ2 MI
          clear HJ HY H0 IH
          gi_wp2
          exact ⟨_, results_none rfl _ _ _, ⟨_, rfl⟩, hJ2, MI⟩
        exact AllReadyZ.nil
      exact AllReadyZ.nil
    have HE := hide (HCE.out.trans (if_pos ⟨hr, hin⟩))
    have hd : decide (sl ∈ l) = false := by rw [decide_eq_false_iff_not]; exact hin
    have HR := hide (HSL.out hr)
    have HNI := hide hin
    clear HCE hin hr HSL
    refine wp_region_heldZ [] (fun w' => w'.cell? ⟨bh, 0, none⟩ = some (.int .u64 h) ∧ w'.cell? ⟨bmm, 0, none⟩ = some (.pointer (some ⟨gm, 0, none⟩)) ∧ w'.cell? ⟨bs, 0, none⟩ = some (.map (some bm)) ∧ (w'.cell? ⟨gm, 0, none⟩ = some (.int .i64 s) ∧ w'.cell? ⟨gm, 1, none⟩ = some (.int .i64 t) ∧ w'.cell? ⟨gm, 2, none⟩ = some (.int .i64 f) ∧ w'.cell? ⟨gm, 3, none⟩ = some (.int .i64 lm) ∧ w'.cell? ⟨gm, 4, none⟩ = some (.int .i64 p)) ∧ MapInt w' bm l.length (fun j => decide (j ∈ l))) (by kernel_rfl) (by exact ⟨xh.cell 0, xm.cell 0, xs.cell 0, mem5 M, MI⟩) (fun hHeld => ?_)
    replace xh := xh.drew
    replace xm := xm.drew
    replace xs := xs.drew
    replace xy := xy.drew
    replace M := M.drew
    replace MI := (show MapInt W0.drew _ _ _ from MI)
    replace PB := PB.drew
    generalize W0.drew = W1 at *
    refine' wpAnyZ_takeA (i := 0) (v := ?_) (opAt rfl) (by kernel_rfl) (by kernel_rfl) (by kernel_rfl) (by kernel_rfl) (fun _ _ _ h => h) (by assumption) (by rfl) (fun w hSw => ?_) ?_
    rotate_left
    · (try dsimp only at hSw); go_simp; (try with_reducible rfl)
    try simp only [Act.put, List.setIfInBounds_toArray, List.set_cons_zero, List.set_cons_succ]
    refine' wpAnyZ_takeA (i := 1) (v := ?_) (opAt rfl) (by kernel_rfl) (by kernel_rfl) (by kernel_rfl) (by kernel_rfl) (fun _ _ _ h => h) (by assumption) (by rfl) (fun w hSw => ?_) ?_
    rotate_left
    · (try dsimp only at hSw); go_simp; (try with_reducible rfl)
    try simp only [Act.put, List.setIfInBounds_toArray, List.set_cons_zero, List.set_cons_succ]
    refine' wpAnyZ_takeA (i := 2) (v := ?_) (opAt rfl) (by kernel_rfl) (by kernel_rfl) (by kernel_rfl) (by kernel_rfl) (fun _ _ _ h => h) (by assumption) (by rfl) (fun w hSw => ?_) ?_
    rotate_left
    · (try dsimp only at hSw); go_simp; (try with_reducible rfl)
    try simp only [Act.put, List.setIfInBounds_toArray, List.set_cons_zero, List.set_cons_succ]
    refine' wpAnyZ_takeA (i := 3) (v := ?_) (opAt rfl) (by kernel_rfl) (by kernel_rfl) (by kernel_rfl) (by kernel_rfl) (fun _ _ _ h => h) (by assumption) (by rfl) (fun w hSw => ?_) ?_
    rotate_left
    · (try dsimp only at hSw); go_simp; (try with_reducible rfl)
    try simp only [Act.put, List.setIfInBounds_toArray, List.set_cons_zero, List.set_cons_succ]
    refine' wpAnyZ_takeA (i := 4) (v := ?_) (opAt rfl) (by kernel_rfl) (by kernel_rfl) (by kernel_rfl) (by kernel_rfl) (fun _ _ _ h => h) (by assumption) (by rfl) (fun w hSw => ?_) ?_
    rotate_left
    · (try dsimp only at hSw); go_simp; (try with_reducible rfl)
    try simp only [Act.put, List.setIfInBounds_toArray, List.set_cons_zero, List.set_cons_succ]
    refine wpAnyZ_ready (rs := [5]) (by kernel_rfl) (by simp) ?_
    refine AllReadyZ.cons (opAt rfl) (fun K hK => ?_) ?_
    · skip
      go_simp
      refine (C2.out _).mono ?_
      rintro e w2 ⟨rfl, hb1⟩
      replace M := M.below hb1
      replace MI := MI.below hb1
      replace xh := xh.below hb1 xh.lt
      replace xm := xm.below hb1 xm.lt
      replace xs := xs.below hb1 xs.lt
      replace xy := xy.below hb1 xy.lt
      replace PB := PB.trans (hb1.mono PB.size)
      clear hb1
      try go_wp2_with fail
      refine hK.out _ _ (by exact ⟨xh.cell 0, xm.cell 0, xs.cell 0, mem5 M, MI⟩) (fun hHeld => ?_)
      clear hK K
      try simp only [Act.put, List.setIfInBounds_toArray, List.set_cons_zero, List.set_cons_succ]
      refine' wpAnyZ_takeA (i := 6) (v := ?_) (opAt rfl) (by kernel_rfl) (by kernel_rfl) (by kernel_rfl) (by kernel_rfl) (fun _ _ _ h => h) (by assumption) (by rfl) (fun w hSw => ?_) ?_
      rotate_left
      · (try dsimp only at hSw); go_simp; (try with_reducible rfl)
      try simp only [Act.put, List.setIfInBounds_toArray, List.set_cons_zero, List.set_cons_succ]
      refine wpAnyZ_ready (rs := [7]) (by kernel_rfl) (by simp) ?_
      refine AllReadyZ.cons (opAt rfl) (fun K hK => ?_) ?_
      · skip
        go_simp
        refine (C3.out _).mono ?_
        rintro e w3 ⟨rfl, rfl⟩
        try go_wp2_with fail
        refine hK.out _ _ (by exact ⟨xh.cell 0, xm.cell 0, xs.cell 0, mem5 M, MI⟩) (fun hHeld => ?_)
        clear hK K
        try simp only [Act.put, List.setIfInBounds_toArray, List.set_cons_zero, List.set_cons_succ]
        refine' wpAnyZ_takeA (i := 8) (v := ?_) (opAt rfl) (by kernel_rfl) (by kernel_rfl) (by kernel_rfl) (by kernel_rfl) (fun _ _ _ h => h) (by assumption) (by rfl) (fun w hSw => ?_) ?_
        rotate_left
        · (try dsimp only at hSw); go_simp; (try with_reducible rfl)
        try simp only [Act.put, List.setIfInBounds_toArray, List.set_cons_zero, List.set_cons_succ]
        refine' wpAnyZ_takeA (i := 9) (v := ?_) (opAt rfl) (by kernel_rfl) (by kernel_rfl) (by kernel_rfl) (by kernel_rfl) (fun _ _ _ h => h) (by assumption) (by rfl) (fun w hSw => ?_) ?_
        rotate_left
        · (try dsimp only at hSw); go_simp; (try with_reducible rfl)
        try simp only [Act.put, List.setIfInBounds_toArray, List.set_cons_zero, List.set_cons_succ]
        refine' wpAnyZ_takeA (i := 10) (v := ?_) (opAt rfl) (by kernel_rfl) (by kernel_rfl) (by kernel_rfl) (by kernel_rfl) (fun _ _ _ h => h) (by assumption) (by rfl) (fun w hSw => ?_) ?_
        rotate_left
        · (try dsimp only at hSw); go_simp; (try with_reducible rfl)
        try simp only [Act.put, List.setIfInBounds_toArray, List.set_cons_zero, List.set_cons_succ]
        refine' wpAnyZ_takeA (i := 11) (v := ?_) (opAt rfl) (by kernel_rfl) (by kernel_rfl) (by kernel_rfl) (by kernel_rfl) (fun _ _ _ h => h) (by assumption) (by rfl) (fun w hSw => ?_) ?_
        rotate_left
        · (try dsimp only at hSw); go_simp; (try with_reducible rfl)
        try simp only [Act.put, List.setIfInBounds_toArray, List.set_cons_zero, List.set_cons_succ]
        refine' wpAnyZ_takeA (i := 12) (v := ?_) (opAt rfl) (by kernel_rfl) (by kernel_rfl) (by kernel_rfl) (by kernel_rfl) (fun _ _ _ h => h) (by assumption) (by rfl) (fun w hSw => ?_) ?_
        rotate_left
        · (try dsimp only at hSw); have hlk := hSw.2.2.2.2.look sl hsw; go_simp; (try with_reducible rfl)
        try simp only [Act.put, List.setIfInBounds_toArray, List.set_cons_zero, List.set_cons_succ]
        refine' wpAnyZ_takeA (i := 13) (v := ?_) (opAt rfl) (by kernel_rfl) (by kernel_rfl) (by kernel_rfl) (by kernel_rfl) (fun _ _ _ h => h) (by assumption) (by rfl) (fun w hSw => ?_) ?_
        rotate_left
        · (try dsimp only at hSw); go_simp; (try with_reducible rfl)
        try simp only [Act.put, List.setIfInBounds_toArray, List.set_cons_zero, List.set_cons_succ]
        refine wpAnyZ_done (by kernel_rfl) ?_ _
        refine onlyNt_normal ?_
        have ms := xs.cell 0
        have hNN := nice_snoc HN.out HR.out HNI.out
        have hlen : l.length < s.toNat := by have h1 := nice_le hNN (by have := HS.out; omega); simp at h1; omega
        have HNN := hide hNN
        have HLEN := hide hlen
        clear hNN hlen
        obtain ⟨w3, hrun, MI3, hg3⟩ := MI.mark (show l.length < maxLen by have h1 := HLEN.out; have h2 := HS.out; unfold maxLen; omega) sl hsw
        have P3 := (PartN.of_below (n := W.heap.size) (bm := bm) PB).trans (PartN.of_grownBy hg3)
        have hF : (fun j => if j = sl then true else decide (j ∈ l)) = (fun j => decide (j ∈ l ++ [sl])) := by
          funext j
          by_cases hj : j = sl
          · subst hj; simp
          · rw [if_neg hj]; simp [hj]
        rw [hF, show l.length + 1 = (l ++ [sl]).length by simp] at MI3
        clear hF
        replace xm := xm.grown hg3 (fun e => HXB.out.1 (by injection e))
        replace xs := xs.grown hg3 (fun e => HXB.out.2 (by injection e))
        have hyb : W.heap.size ≠ bm := fun e => by have := HBM.out; omega
        replace xy := xy.grown hg3 (fun e => hyb (by injection e))
        replace M := M.grown hg3 (fun e => HMB.out.1 (by injection e)) (fun e => HMB.out.2 (by injection e))
        have hsz3 : W.heap.size + 1 ≤ w3.heap.size := Nat.le_trans xy.lt (Nat.le_refl _)
        have HSZ3 := hide hsz3
        clear hsz3 hyb
        have my := xy.cell 0
        have hJ3 := HJ.out _ _ _ H0.out P3
        obtain ⟨fn, tmps, assign, body, hy, hR⟩ := HY.out l sl w3 HLEN.out hJ3
        clear hJ3 hg3 PB MI xh H0
        gi_wp2
        refine (RoundIn.anyDepth rfl hR).mono ?_
        rintro e w4 ⟨rfl, hJ4, hk4⟩
        clear hrun hy hR ms my
        replace MI := MI3.keepX hk4
        clear MI3
        replace M := M.keepX hk4
        replace xm := hk4.blk xm (by decide) (by decide)
        replace xs := hk4.blk xs (by decide) (by decide)
        replace xy := hk4.blk xy (by decide) (by decide)
        have AN := hide (fun w2 (h2 : MemOk w2 gm gw s t f lm p ws) => anode_yes gm gw s t f lm p sl ws w2 HS.out HT.out HF.out (by have := HR.out; omega) h2 H64.out)
        have hgo : (ndOf ws t f sl).1 = nodI ws t f sl := rfl
        have hgv : (ndOf ws t f sl).2 = nodV ws t f sl := rfl
        rw [hgo, hgv] at HE
        clear hgo hgv
        have HV64 := hide (show ∀ x ∈ nodV ws t f sl, W64 x from rowL_w64 H64.out _ _)
        have HVL := hide (show (nodV ws t f sl).length ≤ 64 by have h1 := nodN_le (t := t) (k := sl) H64.out HF.out; have h2 := HF.out; have h3 := rowL_len ws (fun i => nB t f sl + 3 + f + i) (nodN ws t f sl); unfold nodV; omega)
        generalize nodK ws t f sl = ks at *
        generalize nodV ws t f sl = vs at *
        generalize nodL ws t f sl = lk at *
        generalize nodI ws t f sl = inn at *
        have mm := xm.cell 0
        have hsz4 := hide hk4.size
        gi_wp2
        refine ⟨trivial, ?_⟩
        refine (callsIn_wide.2 (AN.out _ M)).mono ?_
        rintro e w5 ⟨⟨v, rfl, ⟨kk, uu, rfl, o1, o2⟩⟩, hb1⟩
        obtain ⟨Ak, ck, rfl⟩ := o1.val
        obtain ⟨Av, cv, rfl⟩ := o2.val
        clear o1
        have bg := Blk.new w5 49 #[.bool false, .slice none 0 0, .slice none 0 0, .int .u64 0]
        have zg := fun i => bg.frozen i
        have mg := fun i => bg.cell i
        have B5 := (Below.refl w5.heap.size w5).alloc (Nat.le_refl _) (.cells #[.bool inn, .slice Ak ks.length ck, .slice Av vs.length cv, .int .u64 lk] 49)
        have P5 := (PartN.of_below (n := W.heap.size) (bm := bm) hb1).trans (PartN.of_below B5)
        have hJ5 := HJ.out _ _ _ hJ4 P5
        replace MI := (MI.below hb1).below B5
        clear mm AN hJ4
        cases inn with
        | false =>
          replace HE := HE.out.trans (if_neg (by decide))
          rw [← HE] at hJ5 MI
          clear HE HY HJ IH
          gi_wp2
          exact ⟨_, results_none rfl _ _ _, ⟨_, rfl⟩, hJ5, MI⟩
        | true =>
          replace HE := hide (HE.out.trans (if_pos rfl))
          have HSZ5 := hide (show W.heap.size + 1 ≤ w5.heap.size by have h1 := HSZ3.out; have h2 := hsz4.out; have h3 := hb1.size; omega)
          have HLW := hide (LoopW.mk (Ds := []) hJ5 MI (KeepW.mk ((M.below hb1).below B5) (xm.below hb1 xm.lt |>.below B5 (xm.below hb1 xm.lt).lt) (xs.below hb1 xs.lt |>.below B5 (xs.below hb1 xs.lt).lt) (xy.below hb1 xy.lt |>.below B5 (xy.below hb1 xy.lt).lt) (own_mono (own_below o2 B5) (show W.heap.size ≤ w4.heap.size by have h1 := HSZ3.out; have h2 := hsz4.out; omega)) ⟨by simp, by simp⟩ (by rw [World.size_alloc]; omega)) : LoopW J (fun k => comesK (ndOf ws t f) s fuel vs (l ++ [sl]) k) bm gm gw s t f lm p ws bmm bs W.heap.size lp vs (.slice Av vs.length cv) w5.heap.size 0 [] _)
          clear hJ5 MI B5 P5 o2 hk4 hb1 M xm xs xy
          gi_wp2
          generalize w5.alloc (.cells #[.bool true, .slice Ak ks.length ck, .slice Av vs.length cv, .int .u64 lk] 49) = w6 at *
          generalize w5.heap.size = g5 at *
          clear zg mg bg
          refine wpIn_loop (fun a W' => ∃ (k : Nat) (q : Int) (u8 u42 u43 u44 u45 u46 u47 u48 u54 : Value) (Ds : List Nat), q = (k : Int) ∧ k ≤ vs.length ∧ a = { tmps := #[.func (.yield lp) #[] #[], .pointer (some ⟨bh, 0, none⟩), .pointer (some ⟨bmm, 0, none⟩), .pointer (some ⟨bs, 0, none⟩), .pointer (some ⟨W.heap.size, 0, none⟩), .int .i64 sl, .pointer (some ⟨g5, 0, none⟩), undef, u8, undef, .int .u64 h, .int .i64 sl, .int .u64 h, .pointer (some ⟨gm, 0, none⟩), .pointer (some ⟨gm, 0, none⟩), .pointer (some ⟨gm, 0, none⟩), .agg #[.int .i64 s, .int .i64 t, .int .i64 f, .int .i64 lm, .int .i64 p], .agg #[.int .i64 s, .int .i64 t, .int .i64 f, .int .i64 lm, .int .i64 p], .int .i64 s, .bool true, .bool false, .bool false, .map (some bm), .int .i64 sl, .bool false, .bool false, .map (some bm), .int .i64 sl, .func (.yield lp) #[] #[], .int .i64 sl, .bool true, .bool false, .pointer (some ⟨gm, 0, none⟩), .int .i64 sl, .agg #[.bool true, .slice Ak ks.length ck, .slice Av vs.length cv, .int .u64 lk], .pointer (some ⟨g5, 0, none⟩), .bool true, .bool false, .pointer (some ⟨g5, 2, none⟩), .slice Av vs.length cv, .int .i64 vs.length, .int .i64 q, u42, u43, u44, u45, u46, u47, u48, undef, undef, undef, undef, undef, u54], defers := Ds.map markOf } ∧ LoopW J (fun k => comesK (ndOf ws t f) s fuel vs (l ++ [sl]) k) bm gm gw s t f lm p ws bmm bs W.heap.size lp vs (.slice Av vs.length cv) g5 k Ds W') (fun a _ => vs.length - idxOf a) ⟨0, 0, _, _, _, _, _, _, _, _, _, [], rfl, Nat.zero_le _, rfl, HLW.out⟩ ?_
          rintro a wr ⟨k, q, u8, u42, u43, u44, u45, u46, u47, u48, u54, Ds, hq, hk, rfl, lw⟩
          have HQ := hide hq
          have hq0 : 0 ≤ q := by omega
          have hq1 : q ≤ 64 := by have := HVL.out; omega
          clear HLW hq
          by_cases hlt : k < vs.length
          · have HLT := hide hlt
            have hqv : q < (vs.length : Int) := by have := HQ.out; omega
            obtain ⟨hJ, MI, kw⟩ := lw
            obtain ⟨M, xm, xs, xy, ov, mk, hsz⟩ := kw
            obtain ⟨av, rfl, hkl, z1⟩ := (Reads.of_own ov).word hlt
            have hc64 := hide (HV64.out _ (List.getElem_mem hkl))
            have HK := hide (comesK_succ (ndOf ws t f) s fuel vs (l ++ [sl]) k hlt)
            generalize vs[k] = c at *
            rw [show k = q.toNat by have := HQ.out; omega] at z1
            have C := hide (fun w2 => below_in 4 (some ⟨gm, 0, none⟩) c (some bm) w2)
            have mm := xm.cell 0
            have ms := xs.cell 0
            gi_wp2
            refine ⟨trivial, ?_⟩
            refine (C.out _).mono ?_
            rintro e w7 ⟨rfl, rfl⟩
            clear mm ms z1
            gi_wp2
            have hn1 := comesK_nice (nd := ndOf ws t f) (s := s) (n := fuel) (vs := vs) HNN.out k hk
            have hfu2 : s.toNat + 1 ≤ (comesK (ndOf ws t f) s fuel vs (l ++ [sl]) k).length + fuel := by
              have h1 := hn1.2
              rw [List.length_append] at h1
              simp only [List.length_singleton] at h1
              have h2 := HFU.out
              omega
            have Pb := (((Below.refl wr.heap.size wr).alloc (Nat.le_refl _) (.cells #[.pointer (some ⟨gm, 0, none⟩)] 27)).alloc (by simp only [World.size_alloc]; omega) (.cells #[.int .u64 c] 32)).alloc (by simp only [World.size_alloc]; omega) (.cells #[.map (some bm)] 84)
            have b1 := ((Blk.new wr 27 #[.pointer (some ⟨gm, 0, none⟩)]).alloc (.cells #[.int .u64 c] 32)).alloc (.cells #[.map (some bm)] 84)
            have b2 := (Blk.new (wr.alloc (.cells #[.pointer (some ⟨gm, 0, none⟩)] 27)) 32 #[.int .u64 c]).alloc (.cells #[.map (some bm)] 84)
            have b3 := Blk.new ((wr.alloc (.cells #[.pointer (some ⟨gm, 0, none⟩)] 27)).alloc (.cells #[.int .u64 c] 32)) 84 #[.map (some bm)]
            simp only [World.size_alloc] at b2 b3
            generalize ((wr.alloc (.cells #[.pointer (some ⟨gm, 0, none⟩)] 27)).alloc (.cells #[.int .u64 c] 32)).alloc (.cells #[.map (some bm)] 84) = w7 at *
            have kw7 := (KeepW.mk (base := 0) (bm := bm) M xm xs xy ov mk hsz).keepX (KeepX.of_below (l := lp) Pb)
            have hJ7 := HJ.out _ _ _ hJ (PartN.of_below Pb)
            have HSEQ := hide (IH.out c _ w7 (wr.heap.size + 1) wr.heap.size (wr.heap.size + 1 + 1) bm hc64.out hn1.1 hfu2 (M.below Pb) (MI.below Pb) b2 b1 b3)
            have hW7 : W.heap.size < w7.heap.size := Nat.lt_of_lt_of_le kw7.xy.lt (Nat.le_refl _)
            have HW7 := hide hW7
            have hDs := hide kw7.mks.lt
            clear hn1 hfu2 b1 b2 b3 M xm xs xy ov mk hsz hJ MI IH hW7
            refine rangeFunc_seen (gf := 90) (lb := #[.pointer (some ⟨wr.heap.size + 1, 0, none⟩), .pointer (some ⟨wr.heap.size, 0, none⟩), .pointer (some ⟨wr.heap.size + 1 + 1, 0, none⟩)]) rfl (enters_of Tryd.func90 (by kernel_rfl) rfl) HSEQ.out (Nat.lt_trans HBM.out HW7.out) (fun A k o hk hf => hf.putObj o (by have h1 := HBM.out; have h2 := HW7.out; omega)) rfl
              (fun xs W' => J xs W' ∧ KeepW gm gw s t f lm p ws bmm bs W.heap.size lp vs (.slice (some av) vs.length cv) g5 bm 0 Ds W')
              (fun xs A A' h hp => ⟨HJ.out _ _ _ h.1 (hp.mono (Nat.le_of_lt HW7.out)), h.2.part hp HMB.out HXB.out HBM.out hDs.out⟩)
              ⟨hJ7, kw7⟩
              (fun (x : Int) => { tmps := #[.func (.yield lp) #[] #[], .pointer (some ⟨bh, 0, none⟩), .pointer (some ⟨bmm, 0, none⟩), .pointer (some ⟨bs, 0, none⟩), .pointer (some ⟨W.heap.size, 0, none⟩), .int .i64 sl, .pointer (some ⟨g5, 0, none⟩), undef, .int .u64 c, .int .i64 x, .int .u64 h, .int .i64 sl, .int .u64 h, .pointer (some ⟨gm, 0, none⟩), .pointer (some ⟨gm, 0, none⟩), .pointer (some ⟨gm, 0, none⟩), .agg #[.int .i64 s, .int .i64 t, .int .i64 f, .int .i64 lm, .int .i64 p], .agg #[.int .i64 s, .int .i64 t, .int .i64 f, .int .i64 lm, .int .i64 p], .int .i64 s, .bool true, .bool false, .bool false, .map (some bm), .int .i64 sl, .bool false, .bool false, .map (some bm), .int .i64 sl, .func (.yield lp) #[] #[], .int .i64 sl, .bool true, .bool false, .pointer (some ⟨gm, 0, none⟩), .int .i64 sl, .agg #[.bool true, .slice Ak ks.length ck, .slice (some av) vs.length cv, .int .u64 lk], .pointer (some ⟨g5, 0, none⟩), .bool true, .bool false, .pointer (some ⟨g5, 2, none⟩), .slice (some av) vs.length cv, .int .i64 vs.length, .int .i64 q, .bool true, .pointer (some (av.add q.toNat)), .int .u64 c, .pointer (some ⟨gm, 0, none⟩), .int .u64 c, .map (some bm), .func (.func 90) #[] #[.pointer (some ⟨wr.heap.size + 1, 0, none⟩), .pointer (some ⟨wr.heap.size, 0, none⟩), .pointer (some ⟨wr.heap.size + 1 + 1, 0, none⟩)], .int .i64 x, undef, undef, undef, undef, u54], defers := [] }) ?assign ?body ?done
            case assign =>
              intro l9 x W9 K hK
              gi_wp2
              exact hK
            case body =>
              rintro l9 xs9 x W9 hl1 hl2 ⟨r9, hr9⟩ ⟨hJ9, kw9⟩ hlen9
              obtain ⟨fn9, tmps9, assign9, body9, hy9, hR9⟩ := HY.out xs9 x W9 hlen9 hJ9
              have my := kw9.xy.cell 0
              have HL9 := hide (show lp < l9 by have h1 := HLP.out; have h2 := HW7.out; omega)
              have HR9 := hide hr9
              clear hJ9 hr9 hl1 hl2
              gi_wp2
              refine RoundIn.mono (RoundIn.anyDepth rfl hR9) ?_
              rintro e w9 ⟨rfl, hJ10, hk10⟩
              clear my
              gi_wp2
              exact ⟨hk10.mono (Nat.le_of_lt HL9.out), (hk10.same _ _ HR9.out HL9.out).trans HR9.out.symm, hJ10, kw9.keepX hk10⟩
            case done =>
              rintro D W9 hD ⟨hJ9, kw9⟩ hMI9 hK9
              have hnd : D ∉ Ds := fun h => by have h1 := hDs.out D h; omega
              have hmk := hide (show Marks W.heap.size (D :: Ds) W9 from ⟨List.nodup_cons.2 ⟨hnd, kw9.mks.1⟩, fun D' h' => by
                rcases List.mem_cons.1 h' with rfl | h'
                · exact ⟨by have h2 := HW7.out; omega, hK9⟩
                · exact kw9.mks.2 D' h'⟩)
              rw [← HK.out] at hJ9 hMI9
              have HJ9 := hide hJ9
              have HM9 := hide hMI9
              have HKW := hide kw9
              clear hJ9 hMI9 kw9 hK9 hD hnd kw7 hJ7 Pb
              gi_wp2
              exact ⟨⟨k + 1, q + 1, _, _, _, _, _, _, _, _, _, D :: Ds, by have := HQ.out; omega, HLT.out, rfl, ⟨HJ9.out, HM9.out, ⟨HKW.out.M, HKW.out.xm, HKW.out.xs, HKW.out.xy, HKW.out.ov, hmk.out, HKW.out.sz⟩⟩⟩, by show vs.length - (q + 1).toNat < vs.length - q.toNat; have := HLT.out; have := HQ.out; omega⟩
          · have hkv : k = vs.length := by omega
            subst hkv
            have hqv : ¬ q < (vs.length : Int) := by have := HQ.out; omega
            obtain ⟨hJ, MI, kw⟩ := lw
            have hmk := hide kw.mks
            rw [show comesK (ndOf ws t f) s fuel vs (l ++ [sl]) vs.length = lout from (comesK_all _ _ _ _ _).trans HE.out.symm] at hJ MI
            have hJ2 := hide (fun W' (hS : Shut W.heap.size wr W') => HJ.out _ _ _ hJ hS.part)
            have hMI := hide MI
            clear hJ MI kw IH HY HJ
            gi_wp2
            refine leaves_marks Ds _ hmk.out ?_
            intro W9 hS
            exact ⟨_, results_none rfl _ _ _, ⟨_, rfl⟩, hJ2.out _ hS, hMI.out.shut hS HBM.out⟩
      exact AllReadyZ.nil
    exact AllReadyZ.nil
end Go.Proofs.YtegldbhabeoboaaDoor

/-
  arena.Tree of any memory; chapter 10's example.
-/
namespace Go.Proofs.YtegldbhabeoboaaDoor
open Go.RowKit Go.Shelf Go.Maps

def treeL (ws : List Int) (s t f : Int) : List Int := comeN (ndOf ws t f) s (s.toNat + 1) (wGet ws (nB t f 0 + 3 + f)) []
theorem tree_beg {s t f : Int} (hs : 1 ≤ s ∧ s ≤ 1000) (ht : 1 ≤ t ∧ t ≤ 64) (hf : 4 ≤ f ∧ f ≤ 64) : treeL (begL s t f) s t f = [1] := by
  unfold treeL
  rw [beg_root hs ht hf]
  unfold comeN
  have h1 : hsl 65537 = 1 := by decide
  have h2 : hrt 65537 s = true := by
    unfold hrt
    rw [h1]
    simp only [Bool.and_eq_true, decide_eq_true_eq]
    omega
  have b := nB_bd hs ht hf (sl := 1) (by omega)
  have h3 : (ndOf (begL s t f) t f (hsl 65537)).1 = false := by
    rw [h1]
    show innB (wGet (begL s t f) (nB t f 1 + 1)) = false
    rw [beg_get (by omega)]
    have h2 := (at_or (t := t) (f := f) (j := nB t f 1 + 1) (k := 1) (c := 1) (by omega) (by omega)).1 (by omega)
    have hp : nB t f 1 + 1 ≠ 2 := by unfold nB; omega
    unfold begAt
    rw [if_neg hp]
    unfold bK bOR
    rw [h2.1, h2.2]
    simp
    rfl
  rw [if_pos ⟨h2, by simp⟩, h3, h1]
  rfl
set_option maxRecDepth 100000 in
set_option maxHeartbeats 2000000 in
theorem atree_any (gm gw : Nat) (s t f lm p : Int) (ws : List Int) (w : World) (hs : 1 ≤ s ∧ s ≤ 1000) (ht : 1 ≤ t ∧ t ≤ 64) (hf : 4 ≤ f ∧ f ≤ 64) (M : MemOk w gm gw s t f lm p ws) (h64 : AllW64 ws) :
    Calls Tryd.prog 24 #[.pointer (some ⟨gm, 0, none⟩)] w fun e w' => (∃ A c, e = .returned (.slice A (treeL ws s t f).length c) ∧ w'.ownsRow w.heap.size 3 1 (.slice A (treeL ws s t f).length c) (treeL ws s t f).length (ints .i64 (treeL ws s t f))) ∧ Below w.heap.size w w' := by
  have hmm := @run_makeMap Tryd.prog
  have RT := hide (aroot_any gm gw s t f lm p ws w hs ht hf M)
  have BL := hide (fun p h m w2 => (callsIn_wide (n := 5)).1 (below_in 5 p h m w2))
  have YL := hide (fun w2 bh bmm bs bm (M : MemOk w2 gm gw s t f lm p ws) MI xh xm xs => below1_yields gm gw s t f lm p ws hs ht hf h64 (s.toNat + 1) (wGet ws (nB t f 0 + 3 + f)) [] w2 bh bmm bs bm (wGet_w64 h64 _) (nice_nil s) (by simp) M MI xh xm xs)
  have HTL := hide (show comeN (ndOf ws t f) s (s.toNat + 1) (wGet ws (nB t f 0 + 3 + f)) [] = treeL ws s t f from rfl)
  rw [HTL.out] at YL
  generalize treeL ws s t f = L at *
  generalize wGet ws (nB t f 0 + 3 + f) = rt at *
  have hsN : s.toNat ≤ 100000 := by omega
  have HSN := hide hsN
  have HM := hide M
  clear hs ht hf h64 M hsN
  go_enter Tryd.func24, Tryd.ntmps24
  go_wp2_with fail
  refine (RT.out).mono ?_
  rintro e w1 ⟨rfl, hb1⟩
  go_wp2_with fail
  refine (BL.out _ _ _ _).mono ?_
  rintro e w2 ⟨rfl, rfl⟩
  have B1 := (((hb1.alloc (hb1.size) (.map #[] 0)).alloc (by rw [World.size_alloc]; have := hb1.size; omega) (.cells #[.pointer (some ⟨gm, 0, none⟩)] 27)).alloc (by simp only [World.size_alloc]; have := hb1.size; omega) (.cells #[.int .u64 rt] 32)).alloc (by simp only [World.size_alloc]; have := hb1.size; omega) (.cells #[.map (some w1.heap.size)] 84)
  have b1 := ((Blk.new (w1.alloc (.map #[] 0)) 27 #[.pointer (some ⟨gm, 0, none⟩)]).alloc (.cells #[.int .u64 rt] 32)).alloc (.cells #[.map (some w1.heap.size)] 84)
  have b2 := (Blk.new ((w1.alloc (.map #[] 0)).alloc (.cells #[.pointer (some ⟨gm, 0, none⟩)] 27)) 32 #[.int .u64 rt]).alloc (.cells #[.map (some w1.heap.size)] 84)
  have b3 := Blk.new (((w1.alloc (.map #[] 0)).alloc (.cells #[.pointer (some ⟨gm, 0, none⟩)] 27)).alloc (.cells #[.int .u64 rt] 32)) 84 #[.map (some w1.heap.size)]
  have MI := (((MapInt.made w1).alloc (.cells #[.pointer (some ⟨gm, 0, none⟩)] 27)).alloc (.cells #[.int .u64 rt] 32)).alloc (.cells #[.map (some w1.heap.size)] 84)
  rw [show (fun _ : Int => false) = (fun j : Int => decide (j ∈ ([] : List Int))) by funext j; simp] at MI
  simp only [World.size_alloc] at b1 b2 b3
  go_wp2_with fail
  have hz : (((((w1.alloc (.map #[] 0)).alloc (.cells #[.pointer (some ⟨gm, 0, none⟩)] 27)).alloc (.cells #[.int .u64 rt] 32)).alloc (.cells #[.map (some w1.heap.size)] 84))).heap.size = w1.heap.size + 4 := by simp only [World.size_alloc]
  generalize ((((w1.alloc (.map #[] 0)).alloc (.cells #[.pointer (some ⟨gm, 0, none⟩)] 27)).alloc (.cells #[.int .u64 rt] 32)).alloc (.cells #[.map (some w1.heap.size)] 84)) = w2 at *
  have hb1s := hb1.size
  have Y := YL.out w2 _ _ _ _ (HM.out.below B1) MI b2 b1 b3
  have C := hide (collect_any _ _ _ _ _ _ w2 HSN.out (by omega) Y (fun A k o hk hf => hf.putObj o (by omega)) (enters_of Tryd.func90 (by kernel_rfl) rfl))
  clear Y MI b1 b2 b3 hb1 YL
  refine (C.out).mono ?_
  rintro e w3 ⟨⟨A, c, rfl, ho⟩, hx, _⟩
  have HX := hide (hx.below B1 B1.size hb1s)
  have HO := hide (own_mono ho (show w.heap.size ≤ w2.heap.size from B1.size))
  clear ho hx hz hb1s B1 C
  go_wp2_with fail
  go_ret
  exact ⟨⟨A, c, rfl, HO.out⟩, HX.out⟩
theorem rg2_two : rg2 2 = [2, 3] := rfl
set_option maxRecDepth 100000 in
set_option maxHeartbeats 2000000 in
theorem awake10 (w : World) (hT : Tab w) : Calls Tryd.prog 9 #[] w fun e w' => e = .returned (.bool true) ∧ Below w.heap.size w w' := by
  have N := hide (anew10_yes 3 1 4 1 1 50 w hT (by decide) (by decide))
  have h3 : (1 : Int) ≤ 3 ∧ (3 : Int) ≤ 1000 := by omega
  have h1 : (1 : Int) ≤ 1 ∧ (1 : Int) ≤ 64 := by omega
  have h4 : (4 : Int) ≤ 4 ∧ (4 : Int) ≤ 64 := by omega
  have F := hide (fun gm gw w2 (M : MemOk w2 gm gw 3 1 4 1 1 (begL 3 1 4)) => afree_any gm gw 3 1 4 1 1 (begL 3 1 4) w2 h3 h1 h4 M (begL_w64 (by omega)))
  have T := hide (fun gm gw w2 (M : MemOk w2 gm gw 3 1 4 1 1 (begL 3 1 4)) => atree_any gm gw 3 1 4 1 1 (begL 3 1 4) w2 h3 h1 h4 M (begL_w64 (by omega)))
  have R := hide (fun gm gw w2 (M : MemOk w2 gm gw 3 1 4 1 1 (begL 3 1 4)) => aroot_any gm gw 3 1 4 1 1 (begL 3 1 4) w2 h3 h1 h4 M)
  rw [frR_beg h3 h1 h4, show ((3 : Int) - 1).toNat = 2 from rfl, rg2_two] at F
  rw [tree_beg h3 h1 h4] at T
  rw [beg_root h3 h1 h4] at R
  clear h3 h1 h4 hT
  go_enter Tryd.func9, Tryd.ntmps9
  go_wp2_with fail
  refine (N.out).mono ?_
  rintro e w1 ⟨⟨gm, gw, rfl, M, _, _⟩, hb1⟩
  go_wp2_with fail
  refine (F.out _ _ _ M).mono ?_
  rintro e w2 ⟨⟨A, c, rfl, ho⟩, hb2⟩
  replace M := M.below hb2
  replace hb1 := hb1.trans (hb2.mono hb1.size)
  clear hb2
  go_wp2_with fail
  refine (T.out _ _ _ M).mono ?_
  rintro e w3 ⟨⟨A3, c3, rfl, _⟩, hb2⟩
  replace M := M.below hb2
  replace ho := own_below ho hb2
  replace hb1 := hb1.trans (hb2.mono hb1.size)
  clear hb2
  obtain ⟨a, rfl, hkl, z1⟩ := (Reads.of_own ho).word (k := 1) (by decide)
  replace z1 : w3.cell? ⟨a.block, a.off + 1, none⟩ = some (.int .i64 3) := z1
  go_wp2_with fail
  refine (R.out _ _ _ M).mono ?_
  rintro e w4 ⟨rfl, hb2⟩
  replace hb1 := hb1.trans (hb2.mono hb1.size)
  clear hb2 z1
  go_wp2_with fail
  go_ret
  exact ⟨rfl, hb1⟩
end Go.Proofs.YtegldbhabeoboaaDoor

/-
  slices.Equal of words, arena.Same.
-/
namespace Go.Proofs.YtegldbhabeoboaaDoor
open Go.RowKit

def EqualIn (l m : List Int) (w : World) (i : Value) (wr : World) : Prop := ∃ k : Nat, i = .int .i64 k ∧ k ≤ l.length ∧ eqTo l m k ∧ Below w.heap.size w wr

set_option maxHeartbeats 1000000 in
theorem equal_any (v u : Value) (l m : List Int) (w : World) (hl : l.length ≤ 1000000) (_hm : m.length ≤ 1000000) (h : Sl w w.heap.size v l) (h' : Sl w w.heap.size u m) :
    Calls Tryd.prog 73 #[v, u] w fun e w' => e = .returned (.bool (decide (l = m))) ∧ Below w.heap.size w w' := by
  obtain ⟨A, c, rfl, _, _, hr⟩ := h
  obtain ⟨B, d, rfl, _, _, hs⟩ := h'
  by_cases hlm : l.length = m.length
  · have q1 : ((l.length : Int) != (m.length : Int)) = false := by simp [hlm]
    have q2 : ((l.length : Int) == (m.length : Int)) = true := by simp [hlm]
    have HL := hide hlm
    clear hlm
    go_enter Tryd.func73, Tryd.ntmps73
    go_wp2_with fail
    go_loopw [13] (EqualIn l m w) (fun i _ => 10000000 - (intOf i).toNat)
    case atStart => exact ⟨0, rfl, by omega, fun i hi => by omega, Below.refl _ _⟩
    case round =>
      obtain ⟨k, rfl, hk, heq, hb⟩ := hrel
      have HE := hide heq
      clear heq
      by_cases hlt : k < l.length
      · obtain ⟨a, rfl, hkl, z1⟩ := (hr.below hb).word hlt
        have hkm : k < m.length := by have := HL.out; omega
        obtain ⟨a2, rfl, hkl2, z2⟩ := (hs.below hb).word hkm
        have G1 := hide (show l.getD k 0 = l[k] by simp [List.getD, hkl])
        have G2 := hide (show m.getD k 0 = m[k] by simp [List.getD, hkl2])
        generalize l[k] = x at *
        generalize m[k] = y at *
        by_cases hxy : x = y
        · have q3 : (x != y) = false := by simp [hxy]
          have q4 : (x == y) = true := by simp [hxy]
          have Hs := hide (show eqTo l m (k + 1) from fun i hi => by
            rcases Nat.eq_or_lt_of_le (Nat.le_of_lt_succ hi) with h | h
            · rw [h, G1.out, G2.out, hxy]
            · exact HE.out i h)
          clear hxy
          go_wp2_with fail
          go_quiet (fail)
          go_wp2_with fail
          go_roundw
          case rel => exact ⟨k + 1, by go_num, by omega, Hs.out, below_drewN hb _⟩
          case measure => simp [intOf]; omega
        · have q3 : (x != y) = true := by simp [hxy]
          have q4 : (x == y) = false := by simp [hxy]
          have Hn := hide (show decide (l = m) = false by simpa using ne_of_getD (i := k) (by rw [G1.out, G2.out]; exact hxy))
          clear hxy
          go_wp2_with fail
          go_quiet (fail)
          go_wp2_with fail
          go_ret
          exact ⟨by rw [Hn.out]; rfl, below_drewN hb _⟩
      · have Hy := hide (show decide (l = m) = true by simpa using eq_of_eqTo HL.out (fun i hi => HE.out i (by omega)))
        go_wp2_with fail
        go_ret
        exact ⟨by rw [Hy.out]; rfl, hb⟩
  · have q1 : ((l.length : Int) != (m.length : Int)) = true := by simp; omega
    have q2 : ((l.length : Int) == (m.length : Int)) = false := by simp; omega
    have Hn := hide (show decide (l = m) = false by simp; intro e; exact hlm (by rw [e]))
    clear hlm
    go_enter Tryd.func73, Tryd.ntmps73
    go_wp2_with fail
    go_ret
    exact ⟨by rw [Hn.out]; rfl, Below.refl _ _⟩

set_option maxHeartbeats 1000000 in
theorem asame_any (v u : Value) (b b' : Bool) (ks vs ks' vs' : List Int) (l l' : Int) (w : World) (g1 : ks.length ≤ 1000000) (g2 : vs.length ≤ 1000000) (g3 : ks'.length ≤ 1000000) (g4 : vs'.length ≤ 1000000)
    (h : Nd w w.heap.size v b ks vs l) (h' : Nd w w.heap.size u b' ks' vs' l') :
    Calls Tryd.prog 30 #[v, u] w fun e w' => e = .returned (.bool (sameB b ks vs l b' ks' vs' l')) ∧ Below w.heap.size w w' := by
  obtain ⟨k, q, rfl, hk, hq⟩ := h
  obtain ⟨k', q', rfl, hk', hq'⟩ := h'
  have W1 := hide (fun w2 (hB : Below w.heap.size w w2) => equal_any k k' ks ks' w2 g1 g3 ((hk.below hB).more hB.size) ((hk'.below hB).more hB.size))
  have W2 := hide (fun w2 (hB : Below w.heap.size w w2) => equal_any q q' vs vs' w2 g2 g4 ((hq.below hB).more hB.size) ((hq'.below hB).more hB.size))
  have E := hide (show sameB b ks vs l b' ks' vs' l' = (b == b' && decide (ks = ks') && decide (vs = vs') && l == l') from rfl)
  generalize sameB b ks vs l b' ks' vs' l' = R at *
  generalize decide (ks = ks') = d1 at *
  generalize decide (vs = vs') = d2 at *
  have hb := ((Below.refl w.heap.size w).alloc (Nat.le_refl _) (.cells #[.bool b, k, q, .int .u64 l] 49)).alloc (by simp only [World.size_alloc]; omega) (.cells #[.bool b', k', q', .int .u64 l'] 49)
  have bx := (Blk.new w 49 #[.bool b, k, q, .int .u64 l]).alloc (.cells #[.bool b', k', q', .int .u64 l'] 49)
  have by_ := Blk.new (w.alloc (.cells #[.bool b, k, q, .int .u64 l] 49)) 49 #[.bool b', k', q', .int .u64 l']
  obtain ⟨A, c, rfl, _⟩ := hk
  obtain ⟨B, d, rfl, _⟩ := hq
  obtain ⟨A', c', rfl, _⟩ := hk'
  obtain ⟨B', d', rfl, _⟩ := hq'
  simp only [World.size_alloc] at by_
  by_cases hbb : b = b'
  · subst hbb
    have q1 : (b == b) = true := by simp
    go_enter Tryd.func30, Tryd.ntmps30
    go_wp2_with fail
    generalize ((w.alloc (.cells #[.bool b, .slice A ks.length c, .slice B vs.length d, .int .u64 l] 49)).alloc (.cells #[.bool b, .slice A' ks'.length c', .slice B' vs'.length d', .int .u64 l'] 49)) = w0 at *
    refine (W1.out _ hb).mono ?_
    rintro e w1 ⟨rfl, hb1⟩
    replace bx := bx.below hb1 bx.lt
    replace by_ := by_.below hb1 by_.lt
    replace hb := hb.trans (hb1.mono hb.size)
    have mx := fun i => bx.cell i
    have my := fun i => by_.cell i
    clear hb1
    cases d1
    · go_wp2_with fail
      go_ret
      exact ⟨by rw [E.out, q1]; simp, hb⟩
    · go_wp2_with fail
      refine (W2.out _ hb).mono ?_
      rintro e w2 ⟨rfl, hb2⟩
      replace bx := bx.below hb2 bx.lt
      replace by_ := by_.below hb2 by_.lt
      replace hb := hb.trans (hb2.mono hb.size)
      clear mx my hb2
      have mx := fun i => bx.cell i
      have my := fun i => by_.cell i
      cases d2
      · go_wp2_with fail
        go_ret
        exact ⟨by rw [E.out, q1]; simp, hb⟩
      · go_wp2_with fail
        go_ret
        exact ⟨by rw [E.out, q1]; simp, hb⟩
  · have q1 : (b == b') = false := by simp [hbb]
    go_enter Tryd.func30, Tryd.ntmps30
    go_wp2_with fail
    go_ret
    exact ⟨by rw [E.out, q1]; simp, hb⟩
end Go.Proofs.YtegldbhabeoboaaDoor

/-
  gleaningref10.Ints; memories that may not be; the first leaf of a machine that begins.
-/
namespace Go.Proofs.YtegldbhabeoboaaDoor
open Go.RowKit

def SlI (w : World) (B : Nat) (v : Value) (xs : List Int) : Prop := ∃ A c, v = .slice A xs.length c ∧ xs.length ≤ c ∧ c ≤ 9223372036854775807 ∧ Reads w B 1 A xs.length (ints .i64 xs)
theorem SlI.below {w w' : World} {B : Nat} {v : Value} {xs : List Int} (h : SlI w B v xs) (hb : Below B w w') : SlI w' B v xs := by
  obtain ⟨A, c, h1, h2, h3, h4⟩ := h
  exact ⟨A, c, h1, h2, h3, h4.below hb⟩
theorem SlI.more {w : World} {B B' : Nat} {v : Value} {xs : List Int} (h : SlI w B v xs) (hB : B ≤ B') : SlI w B' v xs := by
  obtain ⟨A, c, h1, h2, h3, h4⟩ := h
  exact ⟨A, c, h1, h2, h3, h4.1, fun hn => by obtain ⟨a, h5, h6, h7⟩ := h4.2 hn; exact ⟨a, h5, Nat.lt_of_lt_of_le h6 hB, h7⟩⟩
theorem SlI.of_own {w : World} {B : Nat} {e : TypeId} {A : Option Addr} {c : Nat} {xs : List Int} (h : w.ownsRow B e 1 (.slice A xs.length c) xs.length (ints .i64 xs)) : SlI w w.heap.size (.slice A xs.length c) xs := by
  have hr := Reads.of_own h
  rcases h.2 with ⟨h1, h2⟩ | ⟨g, cap, cur, hv, _, _, hc1, hc2, _⟩
  · injection h1 with h3 h4 h5
    exact ⟨A, c, rfl, by omega, by omega, hr⟩
  · injection hv with h3 h4 h5
    unfold maxLen at hc2
    exact ⟨A, c, rfl, by omega, by omega, hr⟩
def IntsIn (l m : List Int) (w : World) (i : Value) (wr : World) : Prop := ∃ k : Nat, i = .int .i64 k ∧ k ≤ l.length ∧ eqTo l m k ∧ Below w.heap.size w wr

set_option maxHeartbeats 1000000 in
theorem ints10_any (v u : Value) (l m : List Int) (w : World) (hl : l.length ≤ 1000000) (_hm : m.length ≤ 1000000) (h : SlI w w.heap.size v l) (h' : SlI w w.heap.size u m) :
    Calls Tryd.prog 23 #[v, u] w fun e w' => e = .returned (.bool (decide (l = m))) ∧ Below w.heap.size w w' := by
  obtain ⟨A, c, rfl, _, _, hr⟩ := h
  obtain ⟨B, d, rfl, _, _, hs⟩ := h'
  by_cases hlm : l.length = m.length
  · have q1 : ((l.length : Int) != (m.length : Int)) = false := by simp [hlm]
    have q2 : ((l.length : Int) == (m.length : Int)) = true := by simp [hlm]
    have HL := hide hlm
    clear hlm
    go_enter Tryd.func23, Tryd.ntmps23
    go_wp2_with fail
    go_loopw [5] (IntsIn l m w) (fun i _ => 10000000 - (intOf i).toNat)
    case atStart => exact ⟨0, rfl, by omega, fun i hi => by omega, Below.refl _ _⟩
    case round =>
      obtain ⟨k, rfl, hk, heq, hb⟩ := hrel
      have HE := hide heq
      clear heq
      by_cases hlt : k < l.length
      · obtain ⟨a, rfl, hkl, z1⟩ := (hr.below hb).word hlt
        have hkm : k < m.length := by have := HL.out; omega
        obtain ⟨a2, rfl, hkl2, z2⟩ := (hs.below hb).word hkm
        have G1 := hide (show l.getD k 0 = l[k] by simp [List.getD, hkl])
        have G2 := hide (show m.getD k 0 = m[k] by simp [List.getD, hkl2])
        generalize l[k] = x at *
        generalize m[k] = y at *
        by_cases hxy : x = y
        · have q3 : (x != y) = false := by simp [hxy]
          have q4 : (x == y) = true := by simp [hxy]
          have Hs := hide (show eqTo l m (k + 1) from fun i hi => by
            rcases Nat.eq_or_lt_of_le (Nat.le_of_lt_succ hi) with h | h
            · rw [h, G1.out, G2.out, hxy]
            · exact HE.out i h)
          clear hxy
          go_wp2_with fail
          go_quiet (fail)
          go_wp2_with fail
          go_roundw
          case rel => exact ⟨k + 1, by go_num, by omega, Hs.out, below_drewN hb _⟩
          case measure => simp [intOf]; omega
        · have q3 : (x != y) = true := by simp [hxy]
          have q4 : (x == y) = false := by simp [hxy]
          have Hn := hide (show decide (l = m) = false by simpa using ne_of_getD (i := k) (by rw [G1.out, G2.out]; exact hxy))
          clear hxy
          go_wp2_with fail
          go_quiet (fail)
          go_wp2_with fail
          go_ret
          exact ⟨by rw [Hn.out]; rfl, below_drewN hb _⟩
      · have Hy := hide (show decide (l = m) = true by simpa using eq_of_eqTo HL.out (fun i hi => HE.out i (by omega)))
        go_wp2_with fail
        go_ret
        exact ⟨by rw [Hy.out]; rfl, hb⟩
  · have q1 : ((l.length : Int) != (m.length : Int)) = true := by simp; omega
    have q2 : ((l.length : Int) == (m.length : Int)) = false := by simp; omega
    have Hn := hide (show decide (l = m) = false by simp; intro e; exact hlm (by rw [e]))
    clear hlm
    go_enter Tryd.func23, Tryd.ntmps23
    go_wp2_with fail
    go_ret
    exact ⟨by rw [Hn.out]; rfl, Below.refl _ _⟩

theorem Sl.of_ref {w : World} {g : Nat} {ws : List Int} (h : RefOk w g ws) (hN : ws.length ≤ 1000000) : Sl w w.heap.size (.slice (some ⟨g, 0, none⟩) ws.length ws.length) ws :=
  ⟨_, _, rfl, Nat.le_refl _, by omega, reads_words h⟩
theorem cutW_whole (ws : List Int) (N : Nat) (h : ws.length = N) : cutW ws 0 N = ws := by
  unfold cutW
  rw [show (min (N : Int) ws.length).toNat = ws.length by omega, show (max (0 : Int) 0).toNat = 0 by omega, List.take_length]
  rfl
set_option maxHeartbeats 1000000 in
theorem anew10_no (s t f l p : Int) (w : World) (hT : Tab w) (hc : cfgOk s t f l p = false) :
    Calls Tryd.prog 10 #[.agg #[.int .i64 s, .int .i64 t, .int .i64 f, .int .i64 l, .int .i64 p]] w fun e w' => e = .returned (.pointer none) ∧ Below w.heap.size w w' := by
  have MN := hide (fun w2 hb => mnew_no s t f l p w2 (hT.below hb) hc)
  have B0 := (Below.refl w.heap.size w).alloc (Nat.le_refl _) (.cells #[.int .i64 s, .int .i64 t, .int .i64 f, .int .i64 l, .int .i64 p] 23)
  have bc := Blk.new w 23 #[.int .i64 s, .int .i64 t, .int .i64 f, .int .i64 l, .int .i64 p]
  have mc := fun i => bc.cell i
  clear hT hc
  go_enter Tryd.func10, Tryd.ntmps10
  go_wp2_with fail
  refine (MN.out _ B0).mono ?_
  rintro e w1 ⟨rfl, hb1⟩
  go_wp2_with fail
  go_ret
  exact ⟨rfl, B0.trans (hb1.mono B0.size)⟩
set_option maxHeartbeats 1000000 in
theorem rnew10_no (s t f l p : Int) (w : World) (hc : cfgOk s t f l p = false) :
    Calls Tryd.prog 11 #[.agg #[.int .i64 s, .int .i64 t, .int .i64 f, .int .i64 l, .int .i64 p]] w fun e w' => (∃ g, e = .returned (.slice (some ⟨g, 0, none⟩) 0 0) ∧ RefOk w' g (zs 0)) ∧ Below w.heap.size w w' := by
  have RN := hide (fun w2 => rnew_any s t f l p 0 w2 (by unfold rSize; rw [hc]; rfl) (by omega))
  have B0 := (Below.refl w.heap.size w).alloc (Nat.le_refl _) (.cells #[.int .i64 s, .int .i64 t, .int .i64 f, .int .i64 l, .int .i64 p] 23)
  have bc := Blk.new w 23 #[.int .i64 s, .int .i64 t, .int .i64 f, .int .i64 l, .int .i64 p]
  have mc := fun i => bc.cell i
  clear hc
  go_enter Tryd.func11, Tryd.ntmps11
  go_wp2_with fail
  refine (RN.out _).mono ?_
  rintro e w1 ⟨⟨g, rfl, R, hg⟩, hb1⟩
  go_wp2_with fail
  go_ret
  exact ⟨⟨g, rfl, R⟩, B0.trans (hb1.mono B0.size)⟩
theorem beg_shp1 {s t f : Int} (hs : 1 ≤ s ∧ s ≤ 1000) (ht : 1 ≤ t ∧ t ≤ 64) (hf : 4 ≤ f ∧ f ≤ 64) : wGet (begL s t f) (nB t f 1 + 1) = 0 := by
  have b := nB_bd hs ht hf (sl := 1) (by omega)
  rw [beg_get (by omega)]
  have h2 := (at_or (t := t) (f := f) (j := nB t f 1 + 1) (k := 1) (c := 1) (by omega) (by omega)).1 (by omega)
  have hp : nB t f 1 + 1 ≠ 2 := by unfold nB; omega
  unfold begAt
  rw [if_neg hp]
  unfold bK bOR
  rw [h2.1, h2.2]
  simp
theorem beg_nodV {s t f : Int} (hs : 1 ≤ s ∧ s ≤ 1000) (ht : 1 ≤ t ∧ t ≤ 64) (hf : 4 ≤ f ∧ f ≤ 64) : nodV (begL s t f) t f 1 = [] := by
  have h : nodN (begL s t f) t f 1 = 0 := by
    unfold nodN
    rw [beg_shp1 hs ht hf]
    unfold ents
    rw [if_neg (by omega), if_neg (by omega)]
    rfl
  unfold nodV
  rw [h]
  rfl
theorem run_field2 (b : Bool) (A1 A2 : Option Addr) (n1 c1 n2 c2 : Nat) (l : Int) (w : World) : (Instr.field 49 (.agg #[.bool b, .slice A1 n1 c1, .slice A2 n2 c2, .int .u64 l]) 2).run Tryd.prog w = .ok (.slice A2 n2 c2) w := by kernel_rfl
end Go.Proofs.YtegldbhabeoboaaDoor

/-
  Arguments opened: a slice, of whatever element type, reads as a list of rows of cells; words, pairs of words.
-/
namespace Go.Proofs.YtegldbhabeoboaaDoor
open Go.ChangeShapes Go.WideShapes Go.ChangeAt Go.RowKit Go.Deep

section
variable {H : Type} {enc : TypeId × Value → H} {P : Program} {w : World} {base : Nat} {spare : Nat → Bool} {held : Bool}

theorem flatten_get {s : Nat} : ∀ {rows : List (List Value)}, (∀ r ∈ rows, r.length = s) → ∀ (i j : Nat), j < s → (h : i < rows.length) → rows.flatten[i * s + j]? = (rows[i])[j]?
  | [], _, _, _, _, h => by simp at h
  | r :: rows, hr, i, j, hj, h => by
    have h0 : r.length = s := hr r (by simp)
    cases i with
    | zero => simp [List.getElem?_append_left (show j < r.length by omega)]
    | succ i =>
      have e : (i + 1) * s + j = i * s + j + s := by rw [Nat.add_mul]; omega
      rw [List.flatten_cons, List.getElem?_append_right (by omega), h0, e, Nat.add_sub_cancel]
      exact flatten_get (fun x hx => hr x (by simp [hx])) i j hj (by simpa using h)

theorem flatten_len {s : Nat} : ∀ {rows : List (List Value)}, (∀ r ∈ rows, r.length = s) → rows.flatten.length = rows.length * s
  | [], _ => by simp
  | r :: rows, hr => by
    rw [List.flatten_cons, List.length_append, hr r (by simp), flatten_len (fun x hx => hr x (by simp [hx]))]
    simp only [List.length_cons, Nat.add_mul]
    omega

/-- A reading by the rows: row i of s cells stands at 'a.add (i * s)'. -/
theorem reads_of_rows {B s n : Nat} {a : Addr} {rows : List (List Value)} (hb : 0 < n → a.block < B) (hl : rows.length = n) (hs : ∀ r ∈ rows, r.length = s)
    (hc : ∀ i (h : i < n), ∀ j, j < s → w.cell? ((a.add (i * s)).add j) = (rows[i]'(by omega))[j]?) : Reads w B s (some a) n rows.flatten := by
  refine ⟨by rw [flatten_len hs, hl], fun hn => ⟨a, rfl, hb hn, fun j u hu => ?_⟩⟩
  have hlt : j < n * s := by
    have h0 := (List.getElem?_eq_some_iff.1 hu).1
    rw [flatten_len hs, hl] at h0
    exact h0
  have hs0 : 0 < s := by
    rcases Nat.eq_zero_or_pos s with h | h
    · subst h; simp at hlt
    · exact h
  have hi : j / s < n := by rw [Nat.div_lt_iff_lt_mul hs0]; exact hlt
  have hm : j % s < s := Nat.mod_lt _ hs0
  have e : j / s * s + j % s = j := by rw [Nat.mul_comm]; exact Nat.div_add_mod j s
  have h1 := hc (j / s) hi (j % s) hm
  rw [add_of_add, e] at h1
  rw [h1, ← flatten_get hs (j / s) (j % s) hm (by omega), e]
  exact hu

/-- A slice argument: its rows. 'E': what the element's reading says of its cells. -/
theorem open_rows {t e : TypeId} {s B b0 : Nat} {v : Value} {d : DataW H} {ps : List MemPlace} (ht : P.underlying t = some (.slice e)) (hs : P.cellsOf e = s) (hs0 : 0 < s)
    (hv : Value.okWide P w .any b0 t v) (h : DataW.Trod enc P w base spare held t v d ps) (hlt : ∀ p ∈ ps, p.block < B) (hsp : ∀ a, spare a = true)
    (E : List Value → Prop) (hE : ∀ n cs' y, DataW.trod enc P w base spare held n e cs' = some y → (∀ p ∈ y.2, p.block < B) → E cs') :
    ∃ (A : Option Addr) (len cap : Nat) (rows : List (List Value)), v = .slice A len cap ∧ len ≤ cap ∧ cap ≤ maxLen ∧ rows.length = len ∧ Reads w B s A len rows.flatten ∧ ∀ r ∈ rows, r.length = s ∧ E r := by
  obtain ⟨A, len, cap, rfl⟩ := okWide_slice ht hv
  obtain ⟨fuel, hf⟩ := h
  rcases open_slice ht hf with ⟨hcs, _⟩ | ⟨a, len', cap', m, n, D, Pl, hcs, hba, hl, hm, hmm, hx, hi⟩
  · simp [Value.cells] at hcs
    obtain ⟨rfl, rfl, rfl⟩ := hcs
    exact ⟨none, 0, 0, [], rfl, Nat.le_refl _, Nat.zero_le _, rfl, Reads.none_, fun r hr => by cases hr⟩
  · simp [Value.cells] at hcs
    obtain ⟨rfl, rfl, rfl⟩ := hcs
    rw [hsp a.block, if_pos rfl] at hmm
    subst hmm
    simp only [Prod.mk.injEq] at hx
    rw [hs] at hx hi
    have hget : ∀ i, i < len → ∃ cs', (cs'.length = s ∧ ∀ j, j < s → w.cell? ((a.add (i * s)).add j) = cs'[j]?) ∧ E cs' := fun i h => by
      obtain ⟨cs', hc, htr⟩ := hi i (by omega)
      obtain ⟨_, h1, h2⟩ := World.cells?_some hc
      refine ⟨cs', ⟨h1, h2⟩, hE n cs' _ htr (fun p hp => hlt p ?_)⟩
      rw [hx.2, List.mem_append, List.mem_flatMap]
      exact .inr ⟨i, by simp; omega, hp⟩
    have hch : ∃ rows : List (List Value), rows.length = len ∧ ∀ i (h : i < rows.length), (rows[i].length = s ∧ ∀ j, j < s → w.cell? ((a.add (i * s)).add j) = rows[i][j]?) ∧ E rows[i] := by
      refine ⟨List.ofFn fun i : Fin len => (hget i.1 i.2).choose, by simp, fun i h => ?_⟩
      simp only [List.length_ofFn] at h
      simp only [List.getElem_ofFn]
      exact (hget i h).choose_spec
    obtain ⟨rows, hrl, hrows⟩ := hch
    have hall : ∀ r ∈ rows, r.length = s ∧ E r := fun r hr => by
      obtain ⟨i, hi, rfl⟩ := List.getElem_of_mem hr
      exact ⟨(hrows i hi).1.1, (hrows i hi).2⟩
    refine ⟨some a, len, _, rows, rfl, hl, hm, hrl, reads_of_rows (fun hn => ?_) hrl (fun r hr => (hall r hr).1) (fun i h j hj => (hrows i (by omega)).1.2 j hj), hall⟩
    refine hlt (.cell a.block (a.off + 0)) ?_
    rw [hx.2, List.mem_append]
    left
    unfold MemPlace.row
    rw [List.mem_map]
    refine ⟨0, ?_, rfl⟩
    rw [List.mem_range]
    exact Nat.mul_pos (by omega) hs0

/-- A slice of integers. -/
theorem open_words {t e : TypeId} {κ : IntKind} {B b0 : Nat} {v : Value} {d : DataW H} {ps : List MemPlace} (ht : P.underlying t = some (.slice e)) (he : P.underlying e = some (.int κ)) (hs : P.cellsOf e = 1)
    (hv : Value.okWide P w .any b0 t v) (h : DataW.Trod enc P w base spare held t v d ps) (hlt : ∀ p ∈ ps, p.block < B) (hsp : ∀ a, spare a = true) :
    ∃ A len cap l, v = .slice A len cap ∧ len ≤ cap ∧ cap ≤ maxLen ∧ l.length = len ∧ Reads w B 1 A len (ints κ l) ∧ ∀ x ∈ l, (Lit.int κ x).wf = true := by
  obtain ⟨A, len, cap, rows, hv, h1, h2, h3, h4, h5⟩ := open_rows ht hs (by omega) hv h hlt hsp (fun cs => ∃ x, cs = [.int κ x] ∧ (Lit.int κ x).wf = true) (fun n cs' y hy _ => by
    obtain ⟨x, h1, _, h3⟩ := DataW.trod_int he hy
    exact ⟨x, h1, h3⟩)
  have key : ∀ rows : List (List Value), (∀ r ∈ rows, r.length = 1 ∧ ∃ x, r = [Value.int κ x] ∧ (Lit.int κ x).wf = true) → ∃ l : List Int, l.length = rows.length ∧ ints κ l = rows.flatten ∧ ∀ x ∈ l, (Lit.int κ x).wf = true := by
    intro rows
    induction rows with
    | nil => intro _; exact ⟨[], rfl, rfl, by simp⟩
    | cons r rows ih =>
      intro h
      obtain ⟨l, e1, e2, e3⟩ := ih (fun r hr => h r (by simp [hr]))
      obtain ⟨x, rfl, hx⟩ := (h r (by simp)).2
      refine ⟨x :: l, by simp [e1], by simp [← e2, ints], fun y hy => ?_⟩
      rcases List.mem_cons.1 hy with rfl | hy
      · exact hx
      · exact e3 y hy
  obtain ⟨l, e1, e2, e3⟩ := key rows h5
  exact ⟨A, len, cap, l, hv, h1, h2, by omega, by rw [e2]; exact h4, e3⟩

/-- A slice of structs of two words. -/
theorem open_pairs {t e : TypeId} {f0 f1 : Field} {B b0 : Nat} {v : Value} {d : DataW H} {ps : List MemPlace} (ht : P.underlying t = some (.slice e)) (he : P.underlying e = some (.struct #[f0, f1]))
    (hone : oneCellFields P #[f0, f1] = true) (hf0 : P.underlying f0.type = some (.int .u64)) (hf1 : P.underlying f1.type = some (.int .u64)) (hs : P.cellsOf e = 2)
    (hv : Value.okWide P w .any b0 t v) (h : DataW.Trod enc P w base spare held t v d ps) (hlt : ∀ p ∈ ps, p.block < B) (hsp : ∀ a, spare a = true) :
    ∃ A len cap l, v = .slice A len cap ∧ len ≤ cap ∧ cap ≤ maxLen ∧ l.length = len ∧ Reads w B 2 A len (rec2 l) ∧ ∀ r ∈ l, W64 r.1 ∧ W64 r.2 := by
  obtain ⟨A, len, cap, rows, hv, h1, h2, h3, h4, h5⟩ := open_rows ht hs (by omega) hv h hlt hsp (fun cs => cs.length = 2 → ∃ x y, cs = [.int .u64 x, .int .u64 y] ∧ W64 x ∧ W64 y) (fun n cs' z hy _ hl => by
    obtain ⟨ys, n', hn', hy', hlen, hyl, hf⟩ := DataW.trod_struct he hy
    match cs', hl with
    | [a, b], _ =>
      obtain ⟨o0, k0⟩ := hone_of hone 0 f0 rfl
      obtain ⟨o1, k1⟩ := hone_of hone 1 f1 rfl
      match ys, hyl with
      | [y0, y1], _ =>
        have g0 := hf 0 f0 rfl
        have g1 := hf 1 f1 rfl
        simp [o0, o1, k0, k1] at g0 g1
        obtain ⟨x, hx, _, wx⟩ := DataW.trod_int hf0 g0
        obtain ⟨y, hy, _, wy⟩ := DataW.trod_int hf1 g1
        simp at hx hy
        exact ⟨x, y, by rw [hx, hy], W64.of_wf wx, W64.of_wf wy⟩)
  have key : ∀ rows : List (List Value), (∀ r ∈ rows, r.length = 2 ∧ (r.length = 2 → ∃ x y, r = [Value.int .u64 x, .int .u64 y] ∧ W64 x ∧ W64 y)) → ∃ l : List (Int × Int), l.length = rows.length ∧ rec2 l = rows.flatten ∧ ∀ r ∈ l, W64 r.1 ∧ W64 r.2 := by
    intro rows
    induction rows with
    | nil => intro _; exact ⟨[], rfl, rfl, by simp⟩
    | cons r rows ih =>
      intro h
      obtain ⟨l, e1, e2, e3⟩ := ih (fun r hr => h r (by simp [hr]))
      obtain ⟨h1, h2⟩ := h r (by simp)
      obtain ⟨x, y, rfl, hx, hy⟩ := h2 h1
      refine ⟨(x, y) :: l, by simp [e1], by simp [← e2, rec2], fun z hz => ?_⟩
      rcases List.mem_cons.1 hz with rfl | hz
      · exact ⟨hx, hy⟩
      · exact e3 z hz
  obtain ⟨l, e1, e2, e3⟩ := key rows h5
  exact ⟨A, len, cap, l, hv, h1, h2, by omega, by rw [e2]; exact h4, e3⟩

/-- A struct by value, whatever its one-cell fields: its cells, each with its own reading. -/
theorem open_flat {t : TypeId} {fs : Array Field} {b0 : Nat} {v : Value} {d : DataW H} {ps : List MemPlace} (ht : P.underlying t = some (.struct fs)) (hone : oneCellFields P fs = true) (hC : P.cellsOf t = fs.size)
    (hv : Value.okWide P w .any b0 t v) (h : DataW.Trod enc P w base spare held t v d ps) :
    ∃ l : List Value, v = .agg l.toArray ∧ l.length = fs.size ∧ ∀ (j : Nat) (f : Field), fs[j]? = some f → ∃ x n y, l[j]? = some x ∧ DataW.trod enc P w base spare held n f.type [x] = some y ∧ ∀ p ∈ y.2, p ∈ ps := by
  obtain ⟨cs, rfl, hsz⟩ := okWide_struct ht hv
  obtain ⟨l⟩ := cs
  have hl : l.length = fs.size := by simpa using hsz.trans hC
  obtain ⟨fuel, hf⟩ := h
  obtain ⟨ys, n, _, hx, _, hlen, hg⟩ := DataW.trod_struct ht hf
  simp only [Prod.mk.injEq] at hx
  refine ⟨l, rfl, hl, fun j f hj => ?_⟩
  obtain ⟨ho, hk⟩ := hone_of hone j f hj
  have hjl : j < fs.size := (Array.getElem?_eq_some_iff.1 hj).1
  have h1 := hg j f hj
  rw [ho, hk] at h1
  have hone' : ((Value.agg l.toArray).cells.toList.drop j).take 1 = [l[j]'(by omega)] := by
    show (l.drop j).take 1 = _
    rw [List.drop_eq_getElem_cons (by omega)]
    rfl
  rw [hone'] at h1
  have hys : ys[j]? = some (ys[j]'(by omega)) := List.getElem?_eq_getElem (by omega)
  refine ⟨l[j]'(by omega), n, ys[j]'(by omega), List.getElem?_eq_getElem (by omega), h1.trans hys, fun p hp => ?_⟩
  rw [hx.2, List.mem_flatMap]
  exact ⟨ys[j]'(by omega), List.getElem_mem _, hp⟩

/-- A struct of five ints by value. -/
theorem open_five {t : TypeId} {κ : IntKind} {f0 f1 f2 f3 f4 : Field} {b0 : Nat} {v : Value} {d : DataW H} {ps : List MemPlace} (ht : P.underlying t = some (.struct #[f0, f1, f2, f3, f4])) (hone : oneCellFields P #[f0, f1, f2, f3, f4] = true) (hC : P.cellsOf t = 5)
    (k0 : P.underlying f0.type = some (.int κ)) (k1 : P.underlying f1.type = some (.int κ)) (k2 : P.underlying f2.type = some (.int κ)) (k3 : P.underlying f3.type = some (.int κ)) (k4 : P.underlying f4.type = some (.int κ))
    (hv : Value.okWide P w .any b0 t v) (h : DataW.Trod enc P w base spare held t v d ps) :
    ∃ a0 a1 a2 a3 a4, v = .agg #[.int κ a0, .int κ a1, .int κ a2, .int κ a3, .int κ a4] ∧ (Lit.int κ a0).wf = true ∧ (Lit.int κ a1).wf = true ∧ (Lit.int κ a2).wf = true ∧ (Lit.int κ a3).wf = true ∧ (Lit.int κ a4).wf = true := by
  obtain ⟨l, rfl, hl, hf⟩ := open_flat ht hone hC hv h
  match l, hl with
  | [x0, x1, x2, x3, x4], _ =>
    obtain ⟨y0, n0, z0, e0, g0, _⟩ := hf 0 f0 rfl
    obtain ⟨y1, n1, z1, e1, g1, _⟩ := hf 1 f1 rfl
    obtain ⟨y2, n2, z2, e2, g2, _⟩ := hf 2 f2 rfl
    obtain ⟨y3, n3, z3, e3, g3, _⟩ := hf 3 f3 rfl
    obtain ⟨y4, n4, z4, e4, g4, _⟩ := hf 4 f4 rfl
    obtain ⟨a0, h0, _, w0⟩ := DataW.trod_int k0 g0
    obtain ⟨a1, h1, _, w1⟩ := DataW.trod_int k1 g1
    obtain ⟨a2, h2, _, w2⟩ := DataW.trod_int k2 g2
    obtain ⟨a3, h3, _, w3⟩ := DataW.trod_int k3 g3
    obtain ⟨a4, h4, _, w4⟩ := DataW.trod_int k4 g4
    simp at e0 e1 e2 e3 e4 h0 h1 h2 h3 h4
    exact ⟨a0, a1, a2, a3, a4, by rw [e0, e1, e2, e3, e4, h0, h1, h2, h3, h4], w0, w1, w2, w3, w4⟩
end
end Go.Proofs.YtegldbhabeoboaaDoor

/-
  Nodes by value, as arguments.
-/
namespace Go.Proofs.YtegldbhabeoboaaDoor
open Go.ChangeShapes Go.WideShapes Go.ChangeAt Go.RowKit Go.Deep

section
variable {H : Type} {enc : TypeId × Value → H} {P : Program} {w : World} {spare : Nat → Bool} {held : Bool} {base : Nat}
/-- A slice argument: its rows. 'E': what the element's reading says of its cells. -/
theorem open_rowsF {t e : TypeId} {s B : Nat} {v : Value} {d : DataW H} {ps : List MemPlace} (ht : P.underlying t = some (.slice e)) (hs : P.cellsOf e = s) (hs0 : 0 < s)
    (hv : ∃ A len cap, v = .slice A len cap) (h : DataW.Trod enc P w base spare held t v d ps) (hlt : ∀ p ∈ ps, p.block < B) (hsp : ∀ a, spare a = true)
    (E : List Value → Prop) (hE : ∀ n cs' y, DataW.trod enc P w base spare held n e cs' = some y → (∀ p ∈ y.2, p.block < B) → E cs') :
    ∃ (A : Option Addr) (len cap : Nat) (rows : List (List Value)), v = .slice A len cap ∧ len ≤ cap ∧ cap ≤ maxLen ∧ rows.length = len ∧ Reads w B s A len rows.flatten ∧ ∀ r ∈ rows, r.length = s ∧ E r := by
  obtain ⟨A, len, cap, rfl⟩ := hv
  obtain ⟨fuel, hf⟩ := h
  rcases open_slice ht hf with ⟨hcs, _⟩ | ⟨a, len', cap', m, n, D, Pl, hcs, hba, hl, hm, hmm, hx, hi⟩
  · simp [Value.cells] at hcs
    obtain ⟨rfl, rfl, rfl⟩ := hcs
    exact ⟨none, 0, 0, [], rfl, Nat.le_refl _, Nat.zero_le _, rfl, Reads.none_, fun r hr => by cases hr⟩
  · simp [Value.cells] at hcs
    obtain ⟨rfl, rfl, rfl⟩ := hcs
    rw [hsp a.block, if_pos rfl] at hmm
    subst hmm
    simp only [Prod.mk.injEq] at hx
    rw [hs] at hx hi
    have hget : ∀ i, i < len → ∃ cs', (cs'.length = s ∧ ∀ j, j < s → w.cell? ((a.add (i * s)).add j) = cs'[j]?) ∧ E cs' := fun i h => by
      obtain ⟨cs', hc, htr⟩ := hi i (by omega)
      obtain ⟨_, h1, h2⟩ := World.cells?_some hc
      refine ⟨cs', ⟨h1, h2⟩, hE n cs' _ htr (fun p hp => hlt p ?_)⟩
      rw [hx.2, List.mem_append, List.mem_flatMap]
      exact .inr ⟨i, by simp; omega, hp⟩
    have hch : ∃ rows : List (List Value), rows.length = len ∧ ∀ i (h : i < rows.length), (rows[i].length = s ∧ ∀ j, j < s → w.cell? ((a.add (i * s)).add j) = rows[i][j]?) ∧ E rows[i] := by
      refine ⟨List.ofFn fun i : Fin len => (hget i.1 i.2).choose, by simp, fun i h => ?_⟩
      simp only [List.length_ofFn] at h
      simp only [List.getElem_ofFn]
      exact (hget i h).choose_spec
    obtain ⟨rows, hrl, hrows⟩ := hch
    have hall : ∀ r ∈ rows, r.length = s ∧ E r := fun r hr => by
      obtain ⟨i, hi, rfl⟩ := List.getElem_of_mem hr
      exact ⟨(hrows i hi).1.1, (hrows i hi).2⟩
    refine ⟨some a, len, _, rows, rfl, hl, hm, hrl, reads_of_rows (fun hn => ?_) hrl (fun r hr => (hall r hr).1) (fun i h j hj => (hrows i (by omega)).1.2 j hj), hall⟩
    refine hlt (.cell a.block (a.off + 0)) ?_
    rw [hx.2, List.mem_append]
    left
    unfold MemPlace.row
    rw [List.mem_map]
    refine ⟨0, ?_, rfl⟩
    rw [List.mem_range]
    exact Nat.mul_pos (by omega) hs0

/-- A slice of integers. -/
theorem open_wordsF {t e : TypeId} {κ : IntKind} {B : Nat} {v : Value} {d : DataW H} {ps : List MemPlace} (ht : P.underlying t = some (.slice e)) (he : P.underlying e = some (.int κ)) (hs : P.cellsOf e = 1)
    (hv : ∃ A len cap, v = .slice A len cap) (h : DataW.Trod enc P w base spare held t v d ps) (hlt : ∀ p ∈ ps, p.block < B) (hsp : ∀ a, spare a = true) :
    ∃ A len cap l, v = .slice A len cap ∧ len ≤ cap ∧ cap ≤ maxLen ∧ l.length = len ∧ Reads w B 1 A len (ints κ l) ∧ ∀ x ∈ l, (Lit.int κ x).wf = true := by
  obtain ⟨A, len, cap, rows, hv, h1, h2, h3, h4, h5⟩ := open_rowsF ht hs (by omega) hv h hlt hsp (fun cs => ∃ x, cs = [.int κ x] ∧ (Lit.int κ x).wf = true) (fun n cs' y hy _ => by
    obtain ⟨x, h1, _, h3⟩ := DataW.trod_int he hy
    exact ⟨x, h1, h3⟩)
  have key : ∀ rows : List (List Value), (∀ r ∈ rows, r.length = 1 ∧ ∃ x, r = [Value.int κ x] ∧ (Lit.int κ x).wf = true) → ∃ l : List Int, l.length = rows.length ∧ ints κ l = rows.flatten ∧ ∀ x ∈ l, (Lit.int κ x).wf = true := by
    intro rows
    induction rows with
    | nil => intro _; exact ⟨[], rfl, rfl, by simp⟩
    | cons r rows ih =>
      intro h
      obtain ⟨l, e1, e2, e3⟩ := ih (fun r hr => h r (by simp [hr]))
      obtain ⟨x, rfl, hx⟩ := (h r (by simp)).2
      refine ⟨x :: l, by simp [e1], by simp [← e2, ints], fun y hy => ?_⟩
      rcases List.mem_cons.1 hy with rfl | hy
      · exact hx
      · exact e3 y hy
  obtain ⟨l, e1, e2, e3⟩ := key rows h5
  exact ⟨A, len, cap, l, hv, h1, h2, by omega, by rw [e2]; exact h4, e3⟩

end
section
variable {H : Type} {enc : TypeId × Value → H} {w : World} {spare : Nat → Bool} {held : Bool} {base : Nat}
/-- A slice of words in a struct's field. -/
theorem open_field {B n : Nat} {x : Value} {y : DataW H × List MemPlace} (g : DataW.trod enc Tryd.prog w base spare held n 29 [x] = some y) (hlt : ∀ p ∈ y.2, p.block < B) (hsp : ∀ a, spare a = true) : ∃ l, Sl w B x l ∧ ∀ z ∈ l, W64 z := by
  have hx : ∃ A len cap, x = .slice A len cap := by
    rcases open_slice Tryd.underlying29 g with ⟨hcs, _⟩ | ⟨a, len', cap', m, n, D, Pl, hcs, _⟩
    · simp only [List.cons.injEq, and_true] at hcs
      exact ⟨_, _, _, hcs⟩
    · simp only [List.cons.injEq, and_true] at hcs
      exact ⟨_, _, _, hcs⟩
  obtain ⟨A0, l0, c0, rfl⟩ := hx
  obtain ⟨A, len, cap, l, h1, h2, h3, h4, h5, h6⟩ := open_wordsF (v := .slice A0 l0 c0) (d := y.1) (ps := y.2) Tryd.underlying29 Tryd.underlying32 (by kernel_rfl) ⟨_, _, _, rfl⟩ ⟨n, by simpa [Value.cells] using g⟩ hlt hsp
  refine ⟨l, ⟨A, cap, by rw [h1, h4], by omega, by unfold maxLen at h3; omega, by rw [h4]; exact h5⟩, fun z hz => W64.of_wf (h6 z hz)⟩
set_option maxRecDepth 100000 in
/-- A node by value. -/
theorem open_node {B b0 : Nat} {v : Value} {d : DataW H} {ps : List MemPlace} (hv : Value.okWide Tryd.prog w .any b0 49 v) (h : DataW.Trod enc Tryd.prog w base spare held 49 v d ps) (hlt : ∀ p ∈ ps, p.block < B) (hsp : ∀ a, spare a = true) :
    ∃ b ks vs l, Nd w B v b ks vs l ∧ W64 l ∧ (∀ z ∈ ks, W64 z) ∧ (∀ z ∈ vs, W64 z) := by
  obtain ⟨xs, rfl, hxl, hf⟩ := open_flat Tryd.underlying49 (by kernel_rfl) (by kernel_rfl) hv h
  match xs, hxl with
  | [x0, x1, x2, x3], _ =>
    obtain ⟨y0, n0, z0, e0, g0, q0⟩ := hf 0 _ rfl
    obtain ⟨y1, n1, z1, e1, g1, q1⟩ := hf 1 _ rfl
    obtain ⟨y2, n2, z2, e2, g2, q2⟩ := hf 2 _ rfl
    obtain ⟨y3, n3, z3, e3, g3, q3⟩ := hf 3 _ rfl
    obtain ⟨b, h0', _⟩ := DataW.trod_bool Tryd.underlying4 g0
    obtain ⟨ks, hk, wk⟩ := open_field g1 (fun p hp => hlt p (q1 p hp)) hsp
    obtain ⟨vs, hvs, wv⟩ := open_field g2 (fun p hp => hlt p (q2 p hp)) hsp
    obtain ⟨l, h3', _, w3⟩ := DataW.trod_int Tryd.underlying32 g3
    simp at e0 e1 e2 e3 h0' h3'
    exact ⟨b, ks, vs, l, ⟨y1, y2, by rw [e0, e1, e2, e3, h0', h3'], hk, hvs⟩, W64.of_wf w3, wk, wv⟩
end
end Go.Proofs.YtegldbhabeoboaaDoor

/-
  The document's list of free slots: gleaningref10.Has, gleaningref10.Free.
-/
namespace Go.Proofs.YtegldbhabeoboaaDoor
open Go.RowKit

theorem take_snocI (l : List Int) (k : Nat) (hk : k < l.length) : l.take (k + 1) = l.take k ++ [l[k]] := by rw [List.take_add_one, List.getElem?_eq_getElem hk]; rfl
def HasIn (n : Nat) (l : List Int) (x : Int) (w : World) (i : Value) (wr : World) : Prop :=
  ∃ k : Nat, i = .int .i64 k ∧ k ≤ n ∧ Below w.heap.size w wr ∧ x ∉ l.take k
set_option maxRecDepth 100000 in
set_option maxHeartbeats 4000000 in
theorem rhas10_any (A : Option Addr) (n c : Nat) (l : List Int) (x : Int) (w : World) (hn : n ≤ 1000000) (hr : Reads w w.heap.size 1 A n (ints .i64 l)) :
    Calls Tryd.prog 59 #[.slice A n c, .int .i64 x] w fun e w' => e = .returned (.bool (decide (x ∈ l))) ∧ Below w.heap.size w w' := by
  go_enter Tryd.func59, Tryd.ntmps59
  go_wp2_with fail
  go_loopw [5] (HasIn n l x w) (fun i _ => n - (intOf i).toNat)
  case atStart => exact ⟨0, rfl, by omega, Below.refl _ _, by simp⟩
  case round =>
    obtain ⟨k, rfl, hk, hb, hc⟩ := hrel
    have Hc := hide hc
    clear hc
    by_cases hlt : k < n
    · obtain ⟨a, rfl, hkl, z1⟩ := (hr.below hb).word hlt
      have Htk := hide (take_snocI l k hkl)
      have Hmem := hide (List.getElem_mem hkl)
      generalize l[k] = y at *
      by_cases h1 : y = x
      · have HX := hide (show x ∈ l from h1 ▸ Hmem.out)
        have h1' : (y == x) = true := by simpa using h1
        clear h1
        go_wp2_with fail
        go_ret
        exact ⟨by rw [decide_eq_true HX.out]; rfl, hb⟩
      · have h1' : (y == x) = false := beq_eq_false_iff_ne.2 h1
        have H1 := hide h1
        clear h1
        go_wp2_with fail
        go_roundw
        case rel => exact ⟨k + 1, by go_num, by omega, hb, by rw [Htk.out, List.mem_append]; exact fun h => h.elim Hc.out (fun h => H1.out (List.mem_singleton.1 h).symm)⟩
        case measure => simp [intOf]; omega
    · have e : l.take k = l := List.take_of_length_le (by have := hr.lenWord; omega)
      have HX := hide (show x ∉ l from e ▸ Hc.out)
      clear e
      go_wp2_with fail
      go_ret
      exact ⟨by rw [decide_eq_false HX.out]; rfl, hb⟩
def RfIn (g gc : Nat) (ws : List Int) (s t f l p : Int) (nx : Int → Int) (R : List Int × Bool) (w : World) (o i : Value) (wr : World) : Prop :=
  ∃ (x : Int) (q : List Int) (A : Option Addr) (c : Nat), o = .slice A q.length c ∧ i = .int .u64 x ∧ W64 x ∧ Nice s q ∧ frN nx s (s.toNat + 1 - q.length) x q = R ∧
    wr.ownsRow (w.heap.size + 1) 3 1 (.slice A q.length c) q.length (ints .i64 q) ∧ RefOk wr g ws ∧ Blk wr gc 23 #[.int .i64 s, .int .i64 t, .int .i64 f, .int .i64 l, .int .i64 p] ∧ w.heap.size + 1 ≤ wr.heap.size ∧ Below w.heap.size w wr
set_option maxRecDepth 100000 in
set_option maxHeartbeats 4000000 in
theorem rfree_any (g : Nat) (s t f l p : Int) (N c0 : Nat) (ws : List Int) (w : World) (hs : 1 ≤ s ∧ s ≤ 1000) (ht : 1 ≤ t ∧ t ≤ 64) (hf : 4 ≤ f ∧ f ≤ 64) (hN : laySize s t f = N) (hl : ws.length = N) (R : RefOk w g ws) (h64 : AllW64 ws) :
    Calls Tryd.prog 18 #[.agg #[.int .i64 s, .int .i64 t, .int .i64 f, .int .i64 l, .int .i64 p], .slice (some ⟨g, 0, none⟩) N c0] w fun e w' => (∃ A c, e = .returned (.tuple #[.slice A (frR ws s t f).1.length c, .bool (frR ws s t f).2]) ∧ w'.ownsRow (w.heap.size + 1) 3 1 (.slice A (frR ws s t f).1.length c) (frR ws s t f).1.length (ints .i64 (frR ws s t f).1)) ∧ Below w.heap.size w w' := by
  obtain ⟨i0, hi0, hz0, hs0, hb0⟩ := info_parts infoI10
  have hsp := size_pos hs ht hf
  have HA := hide (fun A n c q x w2 hn hr => rhas10_any A n c q x w2 hn hr)
  have CK := hide (fun (x : Int) (h1 : 1 ≤ x) (h2 : x ≤ s) w2 => rlnkB_any s t f l p x w2 hs ht hf (by omega))
  have W2 := hide (wGet_w64 h64)
  have hx0 : 0 ≤ wGet ws 2 % 65536 ∧ wGet ws 2 % 65536 < 65536 := by omega
  have hx1 := (W2.out 2).1
  have hws : IntKind.u64.wrap s = s := IntWalk.u64_in _ (by omega)
  have z2 := R.at_ (j := 2) (by omega)
  rw [show ws.getD 2 0 = wGet ws 2 by unfold wGet; rw [if_pos (by omega)]; rfl] at z2
  have q2 : (2 : Int) < (N : Int) := by omega
  have qN2 : ((N : Int) == 0) = false := by rw [beq_eq_false_iff_ne]; omega
  have hgl := Blk.lt (w := w) (g := g) R
  have HGL := hide hgl
  have HSP := hide hsp
  have HNN := hide hN
  have HLL := hide hl
  have B0 := (Below.refl w.heap.size w).alloc (Nat.le_refl _) (.cells #[.int .i64 s, .int .i64 t, .int .i64 f, .int .i64 l, .int .i64 p] 23)
  have bc := Blk.new w 23 #[.int .i64 s, .int .i64 t, .int .i64 f, .int .i64 l, .int .i64 p]
  have R1 : RefOk (w.alloc (.cells #[.int .i64 s, .int .i64 t, .int .i64 f, .int .i64 l, .int .i64 p] 23)) g ws := R.below ((Below.refl w.heap.size w).alloc (Nat.le_refl _) _)
  have O0 : (w.alloc (.cells #[.int .i64 s, .int .i64 t, .int .i64 f, .int .i64 l, .int .i64 p] 23)).ownsRow (w.heap.size + 1) 3 1 (.slice none 0 0) 0 (ints .i64 []) := World.ownsRow_nil _ _ _ _
  have z2b := R1.at_ (j := 2) (by omega)
  rw [show ws.getD 2 0 = wGet ws 2 by unfold wGet; rw [if_pos (by omega)]; rfl] at z2b
  clear R z2 hsp hl h64 hgl hN
  go_enter Tryd.func18, Tryd.ntmps18
  go_wp2_with fail
  have HX := hide hx0
  have hz : w.heap.size + 1 ≤ (w.alloc (.cells #[.int .i64 s, .int .i64 t, .int .i64 f, .int .i64 l, .int .i64 p] 23)).heap.size := by rw [World.size_alloc]; exact Nat.le_refl _
  clear hx0 z2b hx1
  go_loopw [6, 7] (RfIn g w.heap.size ws s t f l p (nxt ws t f) (frR ws s t f) w) (fun o _ _ => s.toNat + 1 - lenV o)
  case atStart => exact ⟨_, [], none, 0, rfl, rfl, ⟨by have := HX.out; omega, by have := HX.out; omega⟩, nice_nil s, rfl, O0, R1, bc, hz, B0⟩
  case round =>
    clear B0 O0 R1 bc hz
    obtain ⟨x, q, A, c, rfl, rfl, hx, hN, hR, ho, R, bc, hz, B⟩ := hrel
    have hlen := nice_len s.toNat q (by rw [Int.toNat_of_nonneg (by omega)]; exact hN)
    obtain ⟨n, hn⟩ : ∃ n, s.toNat + 1 - q.length = n + 1 := ⟨s.toNat - q.length, by omega⟩
    rw [hn] at hR
    unfold frN at hR
    have hR := hide hR
    obtain ⟨hx1, hx2⟩ := hx
    have HNI := hide hN
    have HNM := hide hn
    have HLN := hide hlen
    have mc := fun i => bc.cell i
    clear hN hn hlen
    by_cases h0 : x = 0
    · have e := hR.out
      rw [if_pos h0] at e
      subst h0
      have HE := hide e
      clear e hR
      go_wp2_with fail
      go_ret2
      refine ⟨⟨A, c, ?_, ?_⟩, B⟩
      · rw [← HE.out]; rfl
      · rw [← HE.out]; exact ho
    · have d0 : (x != 0) = true := by simpa using h0
      have HX1 := hide (show 1 ≤ x by omega)
      have R2 := hide ((if_neg h0).symm.trans hR.out)
      clear h0 hR
      by_cases h1 : s < x
      · have e := R2.out
        rw [if_pos (.inl h1)] at e
        have HE := hide e
        have d1 : decide (s < x) = true := by rw [decide_eq_true_iff]; exact h1
        clear e R2 h1
        go_wp2_with fail
        go_ret2
        refine ⟨⟨A, c, ?_, ?_⟩, B⟩
        · rw [← HE.out]; rfl
        · rw [← HE.out]; exact ho
      · have d1 : decide (s < x) = false := by rw [decide_eq_false_iff_not]; exact h1
        have hxs : x ≤ s := by omega
        have hwx : IntKind.i64.wrap x = x := IntWalk.i64_in _ (by omega)
        obtain ⟨A', c', e0x, hrd⟩ := own_reads ho
        simp only [Value.slice.injEq, true_and] at e0x
        obtain ⟨rfl, rfl⟩ := e0x
        have HQ := hide (fun w2 hr => HA.out A q.length c q x w2 (by have := HLN.out; omega) hr)
        have HRD := hide hrd
        clear hrd
        by_cases h2 : x ∈ q
        · have e := R2.out
          rw [if_pos (.inr h2)] at e
          have HE := hide e
          rw [decide_eq_true h2] at HQ
          clear e R2 h1 h2
          go_wp2_with fail
          refine (HQ.out _ HRD.out).mono ?_
          rintro e w4 ⟨rfl, hb1⟩
          replace ho := own_below ho hb1
          replace bc := bc.below hb1 bc.lt
          replace R := R.below hb1
          replace B := B.trans (hb1.mono B.size)
          replace hz := Nat.le_trans hz hb1.size
          clear hb1 mc
          go_wp2_with fail
          go_ret2
          refine ⟨⟨A, c, ?_, ?_⟩, B⟩
          · rw [← HE.out]; rfl
          · rw [← HE.out]; exact ho
        · have e := R2.out
          rw [if_neg (fun h => h.elim h1 h2)] at e
          have HE := hide e
          have HS2 := hide (nice_snoc HNI.out ⟨HX1.out, hxs⟩ h2)
          rw [decide_eq_false h2] at HQ
          have bk := nB_bd hs ht hf (sl := x) (by omega)
          obtain ⟨j, hj⟩ : ∃ j : Nat, nB t f x + 2 = j := Int.eq_ofNat_of_zero_le (by omega)
          have CKx := hide (CK.out x HX1.out hxs)
          rw [hj] at CKx
          have hjN : (j : Int) < (N : Int) := by have := HNN.out; omega
          have ZJ := hide (fun w2 (h : RefOk w2 g ws) => (show w2.cell? ⟨g, j, none⟩ = some (.int .u64 (nxt ws t f x)) from by
            rw [h.at_ (j := j) (by have := HLL.out; omega)]
            unfold nxt wGet
            rw [hj, if_pos (by have := HLL.out; omega)]
            rfl))
          have HNX := hide (W2.out (nB t f x + 2))
          clear e R2 h1 h2 bk hj
          have hl2 : q.length ≤ 4294967296 := by have := HLN.out; omega
          go_wp2_with fail
          refine (HQ.out _ HRD.out).mono ?_
          rintro e w4 ⟨rfl, hb1⟩
          replace ho := own_below ho hb1
          replace bc := bc.below hb1 bc.lt
          replace R := R.below hb1
          replace B := B.trans (hb1.mono B.size)
          replace hz := Nat.le_trans hz hb1.size
          clear hb1 mc
          have mc := fun i => bc.cell i
          have ho6 := ho.alloc (.cells #[.int .i64 x] 3)
          go_wp2_with (at_builtin
                       refine wpList_append_one rfl (.tmp 29) (.tmp 32) _ rfl (w.heap.size + 1) 3 i0 _ 1 8 Tryd.underlying43 hi0 hz0 hs0 hb0 rfl (by omega) (by omega) (.slice A q.length c) q.length _ rfl ho6 w4.heap.size #[.int .i64 x] rfl (Blk.new _ _ _) rfl rfl hl2 (by rw [World.size_alloc]; omega) ?_
                       intro A3 c3 w6 ho7 hg6 hat6
                       have B6 := below_appended (B.alloc (by omega) (.cells #[.int .i64 x] 3)) ho6 hg6 (by omega) (by rw [World.size_alloc]; omega)
                       have bc6 := blk_appended (bc.alloc (.cells #[.int .i64 x] 3)) ho6 hg6 (by omega)
                       have R6 := blk_appended (Blk.alloc (w := w4) R (.cells #[.int .i64 x] 3)) ho6 hg6 (by have := HGL.out; omega)
                       have hz6 : w.heap.size + 1 ≤ w6.heap.size := by have := hg6.size; rw [World.size_alloc] at this; omega
                       clear mc
                       have mc := fun i => bc6.cell i)
          refine (CKx.out _).mono ?_
          rintro e w7 ⟨rfl, hb1⟩
          replace ho7 := own_below ho7 hb1
          replace bc6 := bc6.below hb1 bc6.lt
          replace R6 := Blk.below R6 hb1 (Blk.lt R6)
          replace B6 := B6.trans (hb1.mono B6.size)
          replace hz6 := Nat.le_trans hz6 hb1.size
          clear hb1 mc
          have zj := ZJ.out _ R6
          go_wp2_with fail
          go_roundw
          case measure => simp [lenV]; have := HLN.out; omega
          case rel => exact ⟨nxt ws t f x, q ++ [x], A3, c3, by rw [List.length_append]; rfl, rfl, HNX.out, HS2.out, by rw [List.length_append, show s.toNat + 1 - (q.length + [x].length) = n by have := HNM.out; simp only [List.length_singleton]; omega]; exact HE.out, by rw [List.length_append, ints_append]; exact ho7, R6, bc6, hz6, B6⟩
end Go.Proofs.YtegldbhabeoboaaDoor

