/-
  ArenaBegins holds, as a card: wherever the two listed variables start as the program's text lays them, its Go function returns true for every input and leaves its arguments as they were.
-/
import Derived.Test.YtegldbhabeoboaaDoorZ6
namespace Go.Proofs.YtegldbhabeoboaaDoor
open Go.ChangeShapes Go.WideShapes Go.ChangeAt Go.RowKit

set_option maxRecDepth 100000 in
set_option maxHeartbeats 1000000 in
theorem begins_big (s t f l p : Int) (w : World) (hT : Tab w) (h1 : 5000 < rSize s t f l p) :
    Calls Tryd.prog 4 #[.agg #[.int .i64 s, .int .i64 t, .int .i64 f, .int .i64 l, .int .i64 p]] w fun e w' => e = .returned (.bool true) ∧ Below w.heap.size w w' := by
  have SZ := hide (fun w2 => rsize_any s t f l p w2)
  have AW := hide (fun w2 (hb : Below w.heap.size w w2) => awake10 w2 (hT.below hb))
  generalize rSize s t f l p = z at *
  clear hT
  have B0 := (Below.refl w.heap.size w).alloc (Nat.le_refl _) (.cells #[.int .i64 s, .int .i64 t, .int .i64 f, .int .i64 l, .int .i64 p] 23)
  have bc := Blk.new w 23 #[.int .i64 s, .int .i64 t, .int .i64 f, .int .i64 l, .int .i64 p]
  have mc := fun i => bc.cell i
  go_enter Tryd.func4, Tryd.ntmps4
  go_wp2_with fail
  refine (SZ.out _).mono ?_
  rintro e w1 ⟨rfl, hb1⟩
  replace bc := bc.below hb1 bc.lt
  replace B0 := B0.trans (hb1.mono B0.size)
  clear hb1 mc
  have mc := fun i => bc.cell i
  go_wp2_with fail
  refine (AW.out _ B0).mono ?_
  rintro e w2 ⟨rfl, hb1⟩
  go_wp2_with fail
  go_ret
  exact ⟨rfl, B0.trans (hb1.mono B0.size)⟩
set_option maxRecDepth 100000 in
set_option maxHeartbeats 1000000 in
theorem begins_no (s t f l p : Int) (w : World) (hT : Tab w) (hc : cfgOk s t f l p = false) :
    Calls Tryd.prog 4 #[.agg #[.int .i64 s, .int .i64 t, .int .i64 f, .int .i64 l, .int .i64 p]] w fun e w' => e = .returned (.bool true) ∧ Below w.heap.size w w' := by
  have SZ := hide (fun w2 => rsize_any s t f l p w2)
  rw [show rSize s t f l p = 0 by unfold rSize; rw [hc]; rfl] at SZ
  have AW := hide (fun w2 (hb : Below w.heap.size w w2) => awake10 w2 (hT.below hb))
  have AN := hide (fun w2 (hb : Below w.heap.size w w2) => anew10_no s t f l p w2 (hT.below hb) hc)
  have RN := hide (fun w2 => rnew10_no s t f l p w2 hc)
  clear hT hc
  have B0 := (Below.refl w.heap.size w).alloc (Nat.le_refl _) (.cells #[.int .i64 s, .int .i64 t, .int .i64 f, .int .i64 l, .int .i64 p] 23)
  have bc := Blk.new w 23 #[.int .i64 s, .int .i64 t, .int .i64 f, .int .i64 l, .int .i64 p]
  have mc := fun i => bc.cell i
  go_enter Tryd.func4, Tryd.ntmps4
  go_wp2_with fail
  refine (SZ.out _).mono ?_
  rintro e w1 ⟨rfl, hb1⟩
  replace bc := bc.below hb1 bc.lt
  replace B0 := B0.trans (hb1.mono B0.size)
  clear hb1 mc
  have mc := fun i => bc.cell i
  go_wp2_with fail
  refine (AN.out _ B0).mono ?_
  rintro e w2 ⟨rfl, hb1⟩
  replace bc := bc.below hb1 bc.lt
  replace B0 := B0.trans (hb1.mono B0.size)
  clear hb1 mc
  have mc := fun i => bc.cell i
  go_wp2_with fail
  refine (RN.out _).mono ?_
  rintro e w3 ⟨⟨g, rfl, _⟩, hb1⟩
  replace bc := bc.below hb1 bc.lt
  replace B0 := B0.trans (hb1.mono B0.size)
  clear hb1 mc
  have mc := fun i => bc.cell i
  go_wp2_with fail
  refine (AW.out _ B0).mono ?_
  rintro e w2 ⟨rfl, hb1⟩
  go_wp2_with fail
  go_ret
  exact ⟨rfl, B0.trans (hb1.mono B0.size)⟩
set_option maxRecDepth 100000 in
set_option maxHeartbeats 2000000 in
theorem begins_yes (s t f l p : Int) (w : World) (hT : Tab w) (hc : cfgOk s t f l p = true) (h1 : laySize s t f ≤ 5000) :
    Calls Tryd.prog 4 #[.agg #[.int .i64 s, .int .i64 t, .int .i64 f, .int .i64 l, .int .i64 p]] w fun e w' => e = .returned (.bool true) ∧ Below w.heap.size w w' := by
  have hb := cfgOk_iff.1 hc
  have hs : 1 ≤ s ∧ s ≤ 1000 := by omega
  have ht : 1 ≤ t ∧ t ≤ 64 := by omega
  have hf : 4 ≤ f ∧ f ≤ 64 := by omega
  have hsp := size_pos hs ht hf
  obtain ⟨N, hN⟩ : ∃ N : Nat, laySize s t f = N := Int.eq_ofNat_of_zero_le (by omega)
  have SZ := hide (fun w2 => rsize_any s t f l p w2)
  rw [show rSize s t f l p = N by unfold rSize; rw [if_pos hc]; exact hN] at SZ
  have AW := hide (fun w2 (hb : Below w.heap.size w w2) => awake10 w2 (hT.below hb))
  have AN := hide (fun w2 (hb : Below w.heap.size w w2) => anew10_yes s t f l p N w2 (hT.below hb) hc hN)
  have RN := hide (fun w2 => rnew10_any s t f l p N w2 hc hN)
  have hlen : (begL s t f).length = N := by rw [begL_len, hN]; rfl
  have h64 := begL_w64 (s := s) (t := t) (f := f) hs.2
  have MW := hide (fun gm gw w2 (M : MemOk w2 gm gw s t f l p (begL s t f)) => words_some gm gw 0 N s t f l p 0 N (begL s t f) w2 M (by omega) (by omega) (by omega) (by omega))
  rw [cutW_whole _ _ hlen] at MW
  have WW := hide (fun v g w2 (h : Sl w2 w2.heap.size v (begL s t f)) (R : RefOk w2 g (begL s t f)) => words_any v (.slice (some ⟨g, 0, none⟩) N N) (begL s t f) (begL s t f) w2 (by omega) (by omega) h (by have := Sl.of_ref R (by omega); rw [hlen] at this; exact this))
  rw [show decide (begL s t f = begL s t f) = true by simp] at WW
  have FR := hide (fun gm gw w2 (M : MemOk w2 gm gw s t f l p (begL s t f)) => afree_any gm gw s t f l p (begL s t f) w2 hs ht hf M h64)
  rw [frR_beg hs ht hf] at FR
  dsimp only at FR
  have hrl : (rg2 (s - 1).toNat).length = (s - 1).toNat := rg2_len _
  rw [hrl] at FR
  obtain ⟨q, hq⟩ : ∃ q : Nat, (s - 1).toNat = q := ⟨_, rfl⟩
  rw [hq] at FR
  have hqs : (q : Int) = s - 1 := by omega
  have TR := hide (fun gm gw w2 (M : MemOk w2 gm gw s t f l p (begL s t f)) => atree_any gm gw s t f l p (begL s t f) w2 hs ht hf M h64)
  rw [tree_beg hs ht hf] at TR
  have IT := hide (fun v u w2 (h : SlI w2 w2.heap.size v [1]) (h' : SlI w2 w2.heap.size u [1]) => ints10_any v u [1] [1] w2 (by simp) (by simp) h h')
  rw [show decide (([1] : List Int) = [1]) = true by simp] at IT
  have ND := hide (fun gm gw w2 (M : MemOk w2 gm gw s t f l p (begL s t f)) => anode_yes gm gw s t f l p 1 (begL s t f) w2 hs ht hf (by omega) M h64)
  rw [beg_nodV hs ht hf] at ND
  have hq0 : ((q : Int) == s - 1) = true := by simp [hqs]
  have hN0 : ((N : Int) == 0) = false := by simp; omega
  have hN1 : ¬ (5000 : Int) < (N : Int) := by omega
  have hws : IntKind.i64.wrap (s - 1) = s - 1 := IntWalk.i64_in _ (by omega)
  have rf := run_field2
  generalize begL s t f = bl at *
  clear hT hc hb hs ht hf hsp hlen h64 hrl hq hqs h1 hN
  have B0 := (Below.refl w.heap.size w).alloc (Nat.le_refl _) (.cells #[.int .i64 s, .int .i64 t, .int .i64 f, .int .i64 l, .int .i64 p] 23)
  have bc := Blk.new w 23 #[.int .i64 s, .int .i64 t, .int .i64 f, .int .i64 l, .int .i64 p]
  have mc := fun i => bc.cell i
  go_enter Tryd.func4, Tryd.ntmps4
  go_wp2_with fail
  refine (SZ.out _).mono ?_
  rintro e w1 ⟨rfl, hb1⟩
  replace bc := bc.below hb1 bc.lt
  replace B0 := B0.trans (hb1.mono B0.size)
  clear hb1 mc
  have mc := fun i => bc.cell i
  go_wp2_with fail
  refine (AN.out _ B0).mono ?_
  rintro e w2 ⟨⟨gm, gw, rfl, M, _, _⟩, hb1⟩
  replace bc := bc.below hb1 bc.lt
  replace B0 := B0.trans (hb1.mono B0.size)
  clear hb1 mc
  have mc := fun i => bc.cell i
  go_wp2_with fail
  refine (RN.out _).mono ?_
  rintro e w3 ⟨⟨g, rfl, R, _⟩, hb1⟩
  replace M := M.below hb1
  replace bc := bc.below hb1 bc.lt
  replace B0 := B0.trans (hb1.mono B0.size)
  clear hb1 mc
  have mc := fun i => bc.cell i
  go_wp2_with fail
  refine (MW.out _ _ _ M).mono ?_
  rintro e w4 ⟨⟨u, rfl, ou⟩, hb1⟩
  replace M := M.below hb1
  replace R := R.below hb1
  replace bc := bc.below hb1 bc.lt
  replace B0 := B0.trans (hb1.mono B0.size)
  clear hb1 mc
  have mc := fun i => bc.cell i
  obtain ⟨A, c, rfl⟩ := ou.val
  have su := Sl.of_own ou
  go_wp2_with fail
  refine (WW.out _ _ _ su R).mono ?_
  rintro e w5 ⟨rfl, hb1⟩
  replace M := M.below hb1
  replace bc := bc.below hb1 bc.lt
  replace B0 := B0.trans (hb1.mono B0.size)
  clear hb1 mc
  have mc := fun i => bc.cell i
  clear su ou R
  go_wp2_with fail
  refine (FR.out _ _ _ M).mono ?_
  rintro e w6 ⟨⟨A6, c6, rfl, _⟩, hb1⟩
  replace M := M.below hb1
  replace bc := bc.below hb1 bc.lt
  replace B0 := B0.trans (hb1.mono B0.size)
  clear hb1 mc
  have mc := fun i => bc.cell i
  go_wp2_with fail
  refine (TR.out _ _ _ M).mono ?_
  rintro e w7 ⟨⟨A7, c7, rfl, o7⟩, hb1⟩
  replace M := M.below hb1
  replace bc := bc.below hb1 bc.lt
  replace B0 := B0.trans (hb1.mono B0.size)
  clear hb1 mc
  have mc := fun i => bc.cell i
  go_wp2_with fail
  have s7 := SlI.of_own (o7.alloc (.cells #[.int .i64 1] 3))
  have s8 : SlI (w7.alloc (.cells #[.int .i64 1] 3)) (w7.alloc (.cells #[.int .i64 1] 3)).heap.size (.slice (some ⟨w7.heap.size, 0, none⟩) 1 1) [1] := ⟨_, _, rfl, Nat.le_refl _, by simp, by rw [World.size_alloc]; exact Reads.new w7 [.int .i64 1] 3 1 1 rfl⟩
  have hb8 := (Below.refl w7.heap.size w7).alloc (Nat.le_refl _) (.cells #[.int .i64 1] 3)
  refine (IT.out _ _ _ s7 s8).mono ?_
  rintro e w9 ⟨rfl, hb9⟩
  replace hb8 := hb8.trans (hb9.mono hb8.size)
  clear s7 s8 hb9 o7
  replace M := M.below hb8
  replace bc := bc.below hb8 bc.lt
  replace B0 := B0.trans (hb8.mono B0.size)
  clear hb8 mc
  have mc := fun i => bc.cell i
  go_wp2_with fail
  refine (ND.out _ _ _ M).mono ?_
  rintro e w8 ⟨⟨v, rfl, ⟨kk, uu, rfl, o1, o2⟩⟩, hb1⟩
  obtain ⟨Ak, ck, rfl⟩ := o1.val
  obtain ⟨Av, cv, rfl⟩ := o2.val
  replace bc := bc.below hb1 bc.lt
  replace B0 := B0.trans (hb1.mono B0.size)
  clear hb1 mc
  have mc := fun i => bc.cell i
  clear o1 o2
  go_wp2_with fail
  refine (AW.out _ B0).mono ?_
  rintro e w2 ⟨rfl, hb1⟩
  go_wp2_with fail
  go_ret
  exact ⟨rfl, B0.trans (hb1.mono B0.size)⟩
set_option maxRecDepth 100000 in
theorem arenaBegins_lifted (os : Os) (started : os.Started) (H : Type) (enc : TypeId × Value → H) :
    ReturnsInHanded {} Tryd.checked os 4 .any (fun w args => (Rows.arenaBeginsSpec.pre enc Tryd.prog Tryd.f4 [] false w args ∧ laidMetH Tryd.prog laid2 w) ∧ sizedMet enc Tryd.prog Tryd.f4 (OpenSpec.ofChange Rows.arenaBeginsSpec) false w args) (Rows.arenaBeginsSpec.post enc Tryd.prog Tryd.f4 false true false false) := by
  refine lift started 1 (by kernel_rfl) Tryd.func4 rfl rfl (fun ds hl => ?_) (by kernel_rfl) rfl #[.agg #[.int .i64 0, .int .i64 0, .int .i64 0, .int .i64 0, .int .i64 0]] (by kernel_rfl) (by kernel_rfl) (by kernel_rfl) ?_
  · match ds, hl with
    | [_], _ => rfl
  intro W base args ds ps hT hval0 hA0 hlt
  have hval : ∀ (j : Nat) t v, Tryd.f4.params[j]? = some t → args[j]? = some v → Value.okWide Tryd.prog W .any base t v := hval0
  have hA : DataW.TrodAll enc Tryd.prog W 0 (fun _ => true) true Tryd.f4.params.toList args.toList ds ps := hA0
  rw [Tryd.params4] at hA hval
  clear hA0 hval0
  obtain ⟨v0, d0, rfl, rfl, h0⟩ := trodAll_one hA
  obtain ⟨s, t, f, l, p, rfl, _⟩ := open_five Tryd.underlying23 (by kernel_rfl) (by kernel_rfl) Tryd.underlying3 Tryd.underlying3 Tryd.underlying3 Tryd.underlying3 Tryd.underlying3 (hval 0 _ _ rfl rfl) h0
  cases hc : cfgOk s t f l p with
  | false => exact begins_no s t f l p W hT hc
  | true =>
    by_cases h1 : 5000 < laySize s t f
    · exact begins_big s t f l p W hT (by unfold rSize; rw [if_pos hc]; exact h1)
    · exact begins_yes s t f l p W hT hc (by omega)
theorem arenaBegins_row : Rows.ArenaBeginsSaid :=
  OpenClaim.holds_of_wide 4 Tryd.f4 rfl rfl rfl rfl rfl rfl rfl ⟨rfl, rfl, rfl, rfl, rfl⟩ rfl rfl rfl rfl rfl (by kernel_rfl) Tryd.func4 (by kernel_rfl)
    (of_decide_eq_true (by kernel_rfl)) (by unfold Func.isWrapper; first | (rw [if_pos (by decide +kernel)]; kernel_rfl) | (rw [if_neg (by decide +kernel)]; exact ⟨rfl, rfl⟩))
    (fun os started H enc _ => arenaBegins_lifted os started H enc)
theorem arenaBegins_holds : Rows.ArenaBeginsCardSaid :=
  Claim7.holds_tied_plain_at .later [] [.listed, .data] true Rows.arenaBeginsCard.stood.harness false
    arenaBegins_row (fun _ h => by cases h) (by kernel_rfl) (fun _ h => by cases h) arenaBegins_row_tie rfl ⟨rfl, rfl⟩ (by kernel_rfl) rfl
    (fun f fn hf hfn => by
      obtain rfl : f = 4 := Option.some.inj ((show Tryd.prog.funcNamed "gleaning/gleaninglaw10.ArenaBegins" = some 4 by kernel_rfl).symm.trans hf) |>.symm
      obtain rfl : fn = Tryd.f4 := (Option.some.inj (Tryd.func4.symm.trans hfn)).symm
      exact ⟨by kernel_rfl, fun j t ht => by
        rw [Tryd.params4] at ht
        exact no_stand_in (by kernel_rfl) j t ht⟩)
    (by kernel_rfl)
#print axioms arenaBegins_holds
end Go.Proofs.YtegldbhabeoboaaDoor
