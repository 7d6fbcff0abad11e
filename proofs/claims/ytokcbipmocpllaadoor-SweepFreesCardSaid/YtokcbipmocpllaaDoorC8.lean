/-
  The document's list of free slots: gleaningref10.Has, gleaningref10.Free.
-/
import Derived.Test.YtokcbipmocpllaaDoorC7
import Derived.Deep.QuietTactic
import Derived.BigQuiet
import Derived.ProofKit
import Derived.Deep.Slices
import Derived.Deep.Fields
namespace Go.Proofs.YtokcbipmocpllaaDoor
open Go.RowKit

theorem take_snocI (l : List Int) (k : Nat) (hk : k < l.length) : l.take (k + 1) = l.take k ++ [l[k]] := by rw [List.take_add_one, List.getElem?_eq_getElem hk]; rfl
def HasIn (n : Nat) (l : List Int) (x : Int) (w : World) (i : Value) (wr : World) : Prop :=
  ∃ k : Nat, i = .int .i64 k ∧ k ≤ n ∧ Below w.heap.size w wr ∧ x ∉ l.take k
set_option maxRecDepth 100000 in
set_option maxHeartbeats 4000000 in
theorem rhas10_any (A : Option Addr) (n c : Nat) (l : List Int) (x : Int) (w : World) (hn : n ≤ 1000000) (hr : Reads w w.heap.size 1 A n (ints .i64 l)) :
    Calls Tryd.prog 13 #[.slice A n c, .int .i64 x] w fun e w' => e = .returned (.bool (decide (x ∈ l))) ∧ Below w.heap.size w w' := by
  go_enter Tryd.func13, Tryd.ntmps13
  go_wp2_with fail
  go_loopw [5] (HasIn n l x w) (fun i _ => n - (intOf i).toNat)
  case atStart => exact ⟨0, rfl, by omega, Below.refl _ _, by simp⟩
  case round =>
    obtain ⟨k, rfl, hk, hb, hc⟩ := hrel
    have Hc := hide hc
    clear hc
    by_cases hlt : k < n
    · obtain ⟨a, rfl, hkl, z1⟩ := (hr.below hb).word hlt
      have Htk := hide (take_snocI l k hkl)
      have Hmem := hide (List.getElem_mem hkl)
      generalize l[k] = y at *
      by_cases h1 : y = x
      · have HX := hide (show x ∈ l from h1 ▸ Hmem.out)
        have h1' : (y == x) = true := by simpa using h1
        clear h1
        go_wp2_with fail
        go_ret
        exact ⟨by rw [decide_eq_true HX.out]; rfl, hb⟩
      · have h1' : (y == x) = false := beq_eq_false_iff_ne.2 h1
        have H1 := hide h1
        clear h1
        go_wp2_with fail
        go_roundw
        case rel => exact ⟨k + 1, by go_num, by omega, hb, by rw [Htk.out, List.mem_append]; exact fun h => h.elim Hc.out (fun h => H1.out (List.mem_singleton.1 h).symm)⟩
        case measure => simp [intOf]; omega
    · have e : l.take k = l := List.take_of_length_le (by have := hr.lenWord; omega)
      have HX := hide (show x ∉ l from e ▸ Hc.out)
      clear e
      go_wp2_with fail
      go_ret
      exact ⟨by rw [decide_eq_false HX.out]; rfl, hb⟩
def RfIn (g gc : Nat) (ws : List Int) (s t f l p : Int) (nx : Int → Int) (R : List Int × Bool) (w : World) (o i : Value) (wr : World) : Prop :=
  ∃ (x : Int) (q : List Int) (A : Option Addr) (c : Nat), o = .slice A q.length c ∧ i = .int .u64 x ∧ W64 x ∧ Nice s q ∧ frN nx s (s.toNat + 1 - q.length) x q = R ∧
    wr.ownsRow (w.heap.size + 1) 3 1 (.slice A q.length c) q.length (ints .i64 q) ∧ RefOk wr g ws ∧ Blk wr gc 36 #[.int .i64 s, .int .i64 t, .int .i64 f, .int .i64 l, .int .i64 p] ∧ w.heap.size + 1 ≤ wr.heap.size ∧ Below w.heap.size w wr
set_option maxRecDepth 100000 in
set_option maxHeartbeats 4000000 in
theorem rfree_any (g : Nat) (s t f l p : Int) (N c0 : Nat) (ws : List Int) (w : World) (hs : 1 ≤ s ∧ s ≤ 1000) (ht : 1 ≤ t ∧ t ≤ 64) (hf : 4 ≤ f ∧ f ≤ 64) (hN : laySize s t f = N) (hl : ws.length = N) (R : RefOk w g ws) (h64 : AllW64 ws) :
    Calls Tryd.prog 23 #[.agg #[.int .i64 s, .int .i64 t, .int .i64 f, .int .i64 l, .int .i64 p], .slice (some ⟨g, 0, none⟩) N c0] w fun e w' => (∃ A c, e = .returned (.tuple #[.slice A (frR ws s t f).1.length c, .bool (frR ws s t f).2]) ∧ w'.ownsRow (w.heap.size + 1) 3 1 (.slice A (frR ws s t f).1.length c) (frR ws s t f).1.length (ints .i64 (frR ws s t f).1)) ∧ Below w.heap.size w w' := by
  obtain ⟨i0, hi0, hz0, hs0, hb0⟩ := info_parts infoI10
  have hsp := size_pos hs ht hf
  have HA := hide (fun A n c q x w2 hn hr => rhas10_any A n c q x w2 hn hr)
  have CK := hide (fun (x : Int) (h1 : 1 ≤ x) (h2 : x ≤ s) w2 => rlnkB_any s t f l p x w2 hs ht hf (by omega))
  have W2 := hide (wGet_w64 h64)
  have hx0 : 0 ≤ wGet ws 2 % 65536 ∧ wGet ws 2 % 65536 < 65536 := by omega
  have hx1 := (W2.out 2).1
  have hws : IntKind.u64.wrap s = s := IntWalk.u64_in _ (by omega)
  have z2 := R.at_ (j := 2) (by omega)
  rw [show ws.getD 2 0 = wGet ws 2 by unfold wGet; rw [if_pos (by omega)]; rfl] at z2
  have q2 : (2 : Int) < (N : Int) := by omega
  have qN2 : ((N : Int) == 0) = false := by rw [beq_eq_false_iff_ne]; omega
  have hgl := Blk.lt (w := w) (g := g) R
  have HGL := hide hgl
  have HSP := hide hsp
  have HNN := hide hN
  have HLL := hide hl
  have B0 := (Below.refl w.heap.size w).alloc (Nat.le_refl _) (.cells #[.int .i64 s, .int .i64 t, .int .i64 f, .int .i64 l, .int .i64 p] 36)
  have bc := Blk.new w 36 #[.int .i64 s, .int .i64 t, .int .i64 f, .int .i64 l, .int .i64 p]
  have R1 : RefOk (w.alloc (.cells #[.int .i64 s, .int .i64 t, .int .i64 f, .int .i64 l, .int .i64 p] 36)) g ws := R.below ((Below.refl w.heap.size w).alloc (Nat.le_refl _) _)
  have O0 : (w.alloc (.cells #[.int .i64 s, .int .i64 t, .int .i64 f, .int .i64 l, .int .i64 p] 36)).ownsRow (w.heap.size + 1) 3 1 (.slice none 0 0) 0 (ints .i64 []) := World.ownsRow_nil _ _ _ _
  have z2b := R1.at_ (j := 2) (by omega)
  rw [show ws.getD 2 0 = wGet ws 2 by unfold wGet; rw [if_pos (by omega)]; rfl] at z2b
  clear R z2 hsp hl h64 hgl hN
  go_enter Tryd.func23, Tryd.ntmps23
  go_wp2_with fail
  have HX := hide hx0
  have hz : w.heap.size + 1 ≤ (w.alloc (.cells #[.int .i64 s, .int .i64 t, .int .i64 f, .int .i64 l, .int .i64 p] 36)).heap.size := by rw [World.size_alloc]; exact Nat.le_refl _
  clear hx0 z2b hx1
  go_loopw [6, 7] (RfIn g w.heap.size ws s t f l p (nxt ws t f) (frR ws s t f) w) (fun o _ _ => s.toNat + 1 - lenV o)
  case atStart => exact ⟨_, [], none, 0, rfl, rfl, ⟨by have := HX.out; omega, by have := HX.out; omega⟩, nice_nil s, rfl, O0, R1, bc, hz, B0⟩
  case round =>
    clear B0 O0 R1 bc hz
    obtain ⟨x, q, A, c, rfl, rfl, hx, hN, hR, ho, R, bc, hz, B⟩ := hrel
    have hlen := nice_len s.toNat q (by rw [Int.toNat_of_nonneg (by omega)]; exact hN)
    obtain ⟨n, hn⟩ : ∃ n, s.toNat + 1 - q.length = n + 1 := ⟨s.toNat - q.length, by omega⟩
    rw [hn] at hR
    unfold frN at hR
    have hR := hide hR
    obtain ⟨hx1, hx2⟩ := hx
    have HNI := hide hN
    have HNM := hide hn
    have HLN := hide hlen
    have mc := fun i => bc.cell i
    clear hN hn hlen
    by_cases h0 : x = 0
    · have e := hR.out
      rw [if_pos h0] at e
      subst h0
      have HE := hide e
      clear e hR
      go_wp2_with fail
      go_ret2
      refine ⟨⟨A, c, ?_, ?_⟩, B⟩
      · rw [← HE.out]; rfl
      · rw [← HE.out]; exact ho
    · have d0 : (x != 0) = true := by simpa using h0
      have HX1 := hide (show 1 ≤ x by omega)
      have R2 := hide ((if_neg h0).symm.trans hR.out)
      clear h0 hR
      by_cases h1 : s < x
      · have e := R2.out
        rw [if_pos (.inl h1)] at e
        have HE := hide e
        have d1 : decide (s < x) = true := by rw [decide_eq_true_iff]; exact h1
        clear e R2 h1
        go_wp2_with fail
        go_ret2
        refine ⟨⟨A, c, ?_, ?_⟩, B⟩
        · rw [← HE.out]; rfl
        · rw [← HE.out]; exact ho
      · have d1 : decide (s < x) = false := by rw [decide_eq_false_iff_not]; exact h1
        have hxs : x ≤ s := by omega
        have hwx : IntKind.i64.wrap x = x := IntWalk.i64_in _ (by omega)
        obtain ⟨A', c', e0x, hrd⟩ := own_reads ho
        simp only [Value.slice.injEq, true_and] at e0x
        obtain ⟨rfl, rfl⟩ := e0x
        have HQ := hide (fun w2 hr => HA.out A q.length c q x w2 (by have := HLN.out; omega) hr)
        have HRD := hide hrd
        clear hrd
        by_cases h2 : x ∈ q
        · have e := R2.out
          rw [if_pos (.inr h2)] at e
          have HE := hide e
          rw [decide_eq_true h2] at HQ
          clear e R2 h1 h2
          go_wp2_with fail
          refine (HQ.out _ HRD.out).mono ?_
          rintro e w4 ⟨rfl, hb1⟩
          replace ho := own_below ho hb1
          replace bc := bc.below hb1 bc.lt
          replace R := R.below hb1
          replace B := B.trans (hb1.mono B.size)
          replace hz := Nat.le_trans hz hb1.size
          clear hb1 mc
          go_wp2_with fail
          go_ret2
          refine ⟨⟨A, c, ?_, ?_⟩, B⟩
          · rw [← HE.out]; rfl
          · rw [← HE.out]; exact ho
        · have e := R2.out
          rw [if_neg (fun h => h.elim h1 h2)] at e
          have HE := hide e
          have HS2 := hide (nice_snoc HNI.out ⟨HX1.out, hxs⟩ h2)
          rw [decide_eq_false h2] at HQ
          have bk := nB_bd hs ht hf (sl := x) (by omega)
          obtain ⟨j, hj⟩ : ∃ j : Nat, nB t f x + 2 = j := Int.eq_ofNat_of_zero_le (by omega)
          have CKx := hide (CK.out x HX1.out hxs)
          rw [hj] at CKx
          have hjN : (j : Int) < (N : Int) := by have := HNN.out; omega
          have ZJ := hide (fun w2 (h : RefOk w2 g ws) => (show w2.cell? ⟨g, j, none⟩ = some (.int .u64 (nxt ws t f x)) from by
            rw [h.at_ (j := j) (by have := HLL.out; omega)]
            unfold nxt wGet
            rw [hj, if_pos (by have := HLL.out; omega)]
            rfl))
          have HNX := hide (W2.out (nB t f x + 2))
          clear e R2 h1 h2 bk hj
          have hl2 : q.length ≤ 4294967296 := by have := HLN.out; omega
          go_wp2_with fail
          refine (HQ.out _ HRD.out).mono ?_
          rintro e w4 ⟨rfl, hb1⟩
          replace ho := own_below ho hb1
          replace bc := bc.below hb1 bc.lt
          replace R := R.below hb1
          replace B := B.trans (hb1.mono B.size)
          replace hz := Nat.le_trans hz hb1.size
          clear hb1 mc
          have mc := fun i => bc.cell i
          have ho6 := ho.alloc (.cells #[.int .i64 x] 3)
          go_wp2_with (at_builtin
                       refine wpList_append_one rfl (.tmp 29) (.tmp 32) _ rfl (w.heap.size + 1) 3 i0 _ 1 8 Tryd.underlying27 hi0 hz0 hs0 hb0 rfl (by omega) (by omega) (.slice A q.length c) q.length _ rfl ho6 w4.heap.size #[.int .i64 x] rfl (Blk.new _ _ _) rfl rfl hl2 (by rw [World.size_alloc]; omega) ?_
                       intro A3 c3 w6 ho7 hg6 hat6
                       have B6 := below_appended (B.alloc (by omega) (.cells #[.int .i64 x] 3)) ho6 hg6 (by omega) (by rw [World.size_alloc]; omega)
                       have bc6 := blk_appended (bc.alloc (.cells #[.int .i64 x] 3)) ho6 hg6 (by omega)
                       have R6 := blk_appended (Blk.alloc (w := w4) R (.cells #[.int .i64 x] 3)) ho6 hg6 (by have := HGL.out; omega)
                       have hz6 : w.heap.size + 1 ≤ w6.heap.size := by have := hg6.size; rw [World.size_alloc] at this; omega
                       clear mc
                       have mc := fun i => bc6.cell i)
          refine (CKx.out _).mono ?_
          rintro e w7 ⟨rfl, hb1⟩
          replace ho7 := own_below ho7 hb1
          replace bc6 := bc6.below hb1 bc6.lt
          replace R6 := Blk.below R6 hb1 (Blk.lt R6)
          replace B6 := B6.trans (hb1.mono B6.size)
          replace hz6 := Nat.le_trans hz6 hb1.size
          clear hb1 mc
          have zj := ZJ.out _ R6
          go_wp2_with fail
          go_roundw
          case measure => simp [lenV]; have := HLN.out; omega
          case rel => exact ⟨nxt ws t f x, q ++ [x], A3, c3, by rw [List.length_append]; rfl, rfl, HNX.out, HS2.out, by rw [List.length_append, show s.toNat + 1 - (q.length + [x].length) = n by have := HNM.out; simp only [List.length_singleton]; omega]; exact HE.out, by rw [List.length_append, ints_append]; exact ho7, R6, bc6, hz6, B6⟩
end Go.Proofs.YtokcbipmocpllaaDoor

/-
  SweepFrees' function.
-/
namespace Go.Proofs.YtokcbipmocpllaaDoor
open Go.RowKit
attribute [local go_sem] past_cell past_cell_add

theorem own_other {w w' : World} {lo lo2 n m s s2 : Nat} {e e2 : TypeId} {v u : Value} {xs ys : List Value} (h : w.ownsRow lo e s v n xs) (ho : w.ownsRow lo2 e2 s2 u m ys) (hne : e2 ≠ e) (hg : w.grownBy w' u.ownBlock) : w'.ownsRow lo e s v n xs := by
  rcases h.2 with ⟨rfl, rfl⟩ | ⟨g, cap, cur, rfl, h1, h2, h3⟩
  · exact ⟨h.1, .inl ⟨rfl, rfl⟩⟩
  · refine ⟨h.1, .inr ⟨g, cap, cur, rfl, h1, ?_, h3⟩⟩
    rw [hg.block g (heap_lt h2) (fun he => ?_)]
    · exact h2
    · rcases ho.2 with ⟨rfl, _⟩ | ⟨g', cap', cur', rfl, _, hh', _⟩
      · simp [Value.ownBlock] at he
      · have : g = g' := by simpa [Value.ownBlock] using he
        subst this
        rw [hh'] at h2
        injection h2 with h2
        injection h2 with _ ht
        exact hne ht
theorem infoI19 : (Tryd.prog.info? 3).map (fun i => (i.zero, i.size, i.bytes)) = some (some (.int .i64 0), 1, 8) := by kernel_rfl
set_option maxHeartbeats 1000000 in
theorem rhaz19_any (s t f l p th i : Int) (w : World) (ht : 1 ≤ t ∧ t ≤ 64) (hth : 0 ≤ th ∧ th ≤ 1000) (hi : 0 ≤ i ∧ i ≤ 1) :
    Calls Tryd.prog 16 #[.agg #[.int .i64 s, .int .i64 t, .int .i64 f, .int .i64 l, .int .i64 p], .int .i64 th, .int .i64 i] w fun e w' => e = .returned (.int .i64 (3 + t + 2 * th + i)) ∧ Below w.heap.size w w' := by
  have B0 := (Below.refl w.heap.size w).alloc (Nat.le_refl _) (.cells #[.int .i64 s, .int .i64 t, .int .i64 f, .int .i64 l, .int .i64 p] 36)
  have h0 : IntKind.i64.wrap (3 + t) = 3 + t := IntWalk.i64_in _ (by omega)
  have h1 : IntKind.i64.wrap (2 * th) = 2 * th := IntWalk.i64_in _ (by omega)
  have h2 : IntKind.i64.wrap (3 + t + 2 * th) = 3 + t + 2 * th := IntWalk.i64_in _ (by omega)
  have h3 : IntKind.i64.wrap (3 + t + 2 * th + i) = 3 + t + 2 * th + i := IntWalk.i64_in _ (by omega)
  go_enter Tryd.func16, Tryd.ntmps16
  go_wp2_with fail
  go_ret
  exact ⟨rfl, B0⟩
set_option linter.unusedSimpArgs false in
set_option maxRecDepth 100000 in
set_option maxHeartbeats 4000000 in
theorem sf_far (s t f l p kept ep : Int) (AS AE AH : Option Addr) (nS cS nE cE nH cH : Nat) (w : World) (AW0 : ∀ w2, Below w.heap.size w w2 → Calls Tryd.prog 6 #[] w2 fun e w' => e = .returned (.bool true) ∧ Below w2.heap.size w2 w')
    (hfar : 30 < nS ∨ (¬ 30 < nS ∧ (200 < nH ∨ (¬ 200 < nH ∧ (0 ≤ wrg s t f l p ∨ (¬ 0 ≤ wrg s t f l p ∧ (5000 < rSize s t f l p ∨ (¬ 5000 < rSize s t f l p ∧ nE < nS)))))))) :
    Calls Tryd.prog 4 #[.agg #[.int .i64 s, .int .i64 t, .int .i64 f, .int .i64 l, .int .i64 p], .slice AS nS cS, .slice AE nE cE, .int .i64 kept, .slice AH nH cH, .int .u64 ep] w fun e w' => e = .returned (.bool true) ∧ Below w.heap.size w w' := by
  have AW := hide AW0
  have WR := hide (fun w2 => wrong_any s t f l p w2)
  have SZ := hide (fun w2 => rsize_any s t f l p w2)
  have B0 := (Below.refl w.heap.size w).alloc (Nat.le_refl _) (.cells #[.int .i64 s, .int .i64 t, .int .i64 f, .int .i64 l, .int .i64 p] 36)
  have xc := Blk.new w 36 #[.int .i64 s, .int .i64 t, .int .i64 f, .int .i64 l, .int .i64 p]
  have mc := fun i => xc.cell i
  generalize wrg s t f l p = q at *
  generalize rSize s t f l p = z at *
  rcases hfar with h1 | ⟨h1, h2 | ⟨h2, h3 | ⟨h3, h4 | ⟨h4, h5⟩⟩⟩⟩
  · have h1i : (30 : Int) < (nS : Int) := by omega
    clear h1
    go_enter Tryd.func4, Tryd.ntmps4
    go_wp2_with fail
    refine (AW.out _ B0).mono ?_
    rintro e w9 ⟨rfl, hb1⟩
    go_wp2_with fail
    go_ret
    exact ⟨rfl, B0.trans (hb1.mono B0.size)⟩
  · have h1i : ¬ (30 : Int) < (nS : Int) := by omega
    have h2i : (200 : Int) < (nH : Int) := by omega
    clear h1 h2
    go_enter Tryd.func4, Tryd.ntmps4
    go_wp2_with fail
    refine (AW.out _ B0).mono ?_
    rintro e w9 ⟨rfl, hb1⟩
    go_wp2_with fail
    go_ret
    exact ⟨rfl, B0.trans (hb1.mono B0.size)⟩
  · have h1i : ¬ (30 : Int) < (nS : Int) := by omega
    have h2i : ¬ (200 : Int) < (nH : Int) := by omega
    clear h1 h2
    go_enter Tryd.func4, Tryd.ntmps4
    go_wp2_with fail
    refine (WR.out _).mono ?_
    rintro e w1 ⟨rfl, hb1⟩
    replace xc := xc.below hb1 xc.lt
    replace B0 := B0.trans (hb1.mono B0.size)
    clear hb1 mc
    have mc := fun i => xc.cell i
    go_wp2_with fail
    refine (AW.out _ B0).mono ?_
    rintro e w9 ⟨rfl, hb1⟩
    go_wp2_with fail
    go_ret
    exact ⟨rfl, B0.trans (hb1.mono B0.size)⟩
  · have h1i : ¬ (30 : Int) < (nS : Int) := by omega
    have h2i : ¬ (200 : Int) < (nH : Int) := by omega
    clear h1 h2
    go_enter Tryd.func4, Tryd.ntmps4
    go_wp2_with fail
    refine (WR.out _).mono ?_
    rintro e w1 ⟨rfl, hb1⟩
    replace xc := xc.below hb1 xc.lt
    replace B0 := B0.trans (hb1.mono B0.size)
    clear hb1 mc
    have mc := fun i => xc.cell i
    go_wp2_with fail
    refine (SZ.out _).mono ?_
    rintro e w2 ⟨rfl, hb1⟩
    replace xc := xc.below hb1 xc.lt
    replace B0 := B0.trans (hb1.mono B0.size)
    clear hb1 mc
    have mc := fun i => xc.cell i
    go_wp2_with fail
    refine (AW.out _ B0).mono ?_
    rintro e w9 ⟨rfl, hb1⟩
    go_wp2_with fail
    go_ret
    exact ⟨rfl, B0.trans (hb1.mono B0.size)⟩
  · have h1i : ¬ (30 : Int) < (nS : Int) := by omega
    have h2i : ¬ (200 : Int) < (nH : Int) := by omega
    have h5i : (nE : Int) < (nS : Int) := by omega
    clear h1 h2 h5
    go_enter Tryd.func4, Tryd.ntmps4
    go_wp2_with fail
    refine (WR.out _).mono ?_
    rintro e w1 ⟨rfl, hb1⟩
    replace xc := xc.below hb1 xc.lt
    replace B0 := B0.trans (hb1.mono B0.size)
    clear hb1 mc
    have mc := fun i => xc.cell i
    go_wp2_with fail
    refine (SZ.out _).mono ?_
    rintro e w2 ⟨rfl, hb1⟩
    replace xc := xc.below hb1 xc.lt
    replace B0 := B0.trans (hb1.mono B0.size)
    clear hb1 mc
    have mc := fun i => xc.cell i
    go_wp2_with fail
    refine (AW.out _ B0).mono ?_
    rintro e w9 ⟨rfl, hb1⟩
    go_wp2_with fail
    go_ret
    exact ⟨rfl, B0.trans (hb1.mono B0.size)⟩
end Go.Proofs.YtokcbipmocpllaaDoor

/-
  gleaningref16.Cover and Covered; gleaningref03.Words.
-/
namespace Go.Proofs.YtokcbipmocpllaaDoor
open Go.RowKit

def CoverIn (n : Nat) (l : List Int) (x : Int) (w : World) (i : Value) (wr : World) : Prop :=
  ∃ k : Nat, i = .int .i64 k ∧ k ≤ n ∧ Below w.heap.size w wr ∧ coverB (l.take k) x = false

set_option maxHeartbeats 400000 in
theorem Cover_any (B : Option Addr) (m d : Nat) (hz : List Int) (x : Int) (w : World) (hm : m ≤ 1000) (hrz : Reads w w.heap.size 1 B m (ints .u64 hz)) :
    Calls Tryd.prog 26 #[.int .u64 x, .slice B m d] w fun e w' => e = .returned (.bool (coverB hz x)) ∧ Below w.heap.size w w' := by
  go_enter Tryd.func26, Tryd.ntmps26
  go_wp2_with fail
  go_loopw [5] (CoverIn m hz x w) (fun i _ => m - (intOf i).toNat)
  case atStart => exact ⟨0, rfl, by omega, Below.refl _ _, rfl⟩
  case round =>
    obtain ⟨k, rfl, hk, hb, hc⟩ := hrel
    have Hc := hide hc
    clear hc
    by_cases hlt : k < m
    · obtain ⟨a, rfl, hkl, z1⟩ := (hrz.below hb).word hlt
      have Htk := hide (take_snoc' hz k hkl)
      have Hmem := hide (List.getElem_mem hkl)
      generalize hz[k] = y at *
      by_cases h1 : y = x
      · subst h1
        by_cases h0 : y = 0
        · subst h0
          go_wp2_with fail
          go_roundw
          case rel => exact ⟨k + 1, by go_num, by omega, hb, by rw [Htk.out, coverB_snoc]; simp⟩
          case measure => simp [intOf]; omega
        · have h0' : (y != 0) = true := by simpa using h0
          have h0'' : (y == 0) = false := by simpa using h0
          have H0 := hide h0
          clear h0
          go_wp2_with fail
          go_ret
          exact ⟨by simp [coverB, Hmem.out, h0'], hb⟩
      · have h1' : (y == x) = false := beq_eq_false_iff_ne.2 h1
        go_wp2_with fail
        go_roundw
        case rel => exact ⟨k + 1, by go_num, by omega, hb, by rw [Htk.out, coverB_snoc, if_neg (Ne.symm h1)]; exact Hc.out⟩
        case measure => simp [intOf]; omega
    · have e : hz.take k = hz := List.take_of_length_le (by have := hrz.lenWord; omega)
      have Hc' := hide (e ▸ Hc.out)
      clear e
      go_wp2_with fail
      go_ret
      exact ⟨by rw [Hc'.out]; rfl, hb⟩

def CovRefIn (n : Nat) (l : List Int) (p : Int → Bool) (w : World) (v1 i : Value) (wr : World) : Prop :=
  ∃ (k : Nat) (A1 : Option Addr) (n1 c1 : Nat), i = .int .i64 k ∧ k ≤ n ∧ v1 = .slice A1 n1 c1 ∧ Below w.heap.size w wr ∧ n1 = ((l.take k).filter p).length ∧
    wr.ownsRow w.heap.size 29 1 (.slice A1 n1 c1) n1 (ints .u64 ((l.take k).filter p))

def WordsIn (n : Nat) (w : World) (i : Value) (wr : World) : Prop := ∃ (k : Nat), i = .int .i64 k ∧ k ≤ n ∧ Below w.heap.size w wr

set_option maxHeartbeats 400000 in
theorem Words_eq (A B : Option Addr) (n c d : Nat) (l : List Int) (w : World) (hn : n ≤ 4294967296) (hA : Reads w w.heap.size 1 A n (ints .u64 l)) (hB : Reads w w.heap.size 1 B n (ints .u64 l)) :
    Calls Tryd.prog 28 #[.slice A n c, .slice B n d] w fun r w' => r = .returned (.bool true) ∧ Below w.heap.size w w' := by
  go_enter Tryd.func28, Tryd.ntmps28
  go_wp2_with fail
  go_loopw [5] (WordsIn n w) (fun i _ => n - (intOf i).toNat)
  case atStart => exact ⟨0, rfl, by omega, Below.refl _ _⟩
  case round =>
    obtain ⟨k, rfl, hk, hb⟩ := hrel
    by_cases hlt : k < n
    · obtain ⟨a, rfl, _, z1⟩ := (hA.below hb).word hlt
      obtain ⟨b, rfl, _, z3⟩ := (hB.below hb).word hlt
      generalize l[k] = x at *
      go_wp2_with fail
      go_quiet (fail)
      go_wp2_with fail
      go_roundw
      case rel => exact ⟨k + 1, by go_num, by omega, below_drewN hb _⟩
      case measure => simp [intOf]; omega
    · go_wp2_with fail
      go_ret
      exact ⟨rfl, hb⟩
end Go.Proofs.YtokcbipmocpllaaDoor

/-
  The reference's Ripe, Part, Without.
-/
namespace Go.Proofs.YtokcbipmocpllaaDoor
open Go.RowKit

set_option maxHeartbeats 400000 in
theorem RRipe_any (h e ep : Int) (w : World) (he : W64 e) (hp : W64 ep) :
    Calls Tryd.prog 25 #[.agg #[.int .u64 h, .int .u64 e], .int .u64 ep] w fun r w' => r = .returned (.bool (ripeB e ep)) ∧ Below w.heap.size w w' := by
  obtain ⟨h0, h1⟩ := he
  obtain ⟨h2, h3⟩ := hp
  by_cases hc : e ≤ ep
  · go_enter Tryd.func25, Tryd.ntmps25
    go_wp2
    go_ret
    exact ⟨by unfold ripeB; congr 2; simp; omega, (Below.refl _ _).alloc (Nat.le_refl _) _⟩
  · go_enter Tryd.func25, Tryd.ntmps25
    go_wp2
    go_ret
    exact ⟨by unfold ripeB; congr 2; simp; omega, (Below.refl _ _).alloc (Nat.le_refl _) _⟩

def PRefIn (n : Nat) (l : List (Int × Int)) (p : Int × Int → Bool) (w : World) (v1 i : Value) (wr : World) : Prop :=
  ∃ (k : Nat) (A1 : Option Addr) (n1 c1 : Nat), i = .int .i64 k ∧ k ≤ n ∧ v1 = .slice A1 n1 c1 ∧ Below w.heap.size w wr ∧ n1 = ((l.take k).filter p).length ∧
    wr.ownsRow w.heap.size 31 2 (.slice A1 n1 c1) n1 (rec2 ((l.take k).filter p))

end Go.Proofs.YtokcbipmocpllaaDoor

/-
  Arguments opened: a slice, of whatever element type, reads as a list of rows of cells; words, pairs of words.
-/
namespace Go.Proofs.YtokcbipmocpllaaDoor
open Go.ChangeShapes Go.WideShapes Go.ChangeAt Go.RowKit Go.Deep

section
variable {H : Type} {enc : TypeId × Value → H} {P : Program} {w : World} {base : Nat} {spare : Nat → Bool} {held : Bool}

theorem flatten_get {s : Nat} : ∀ {rows : List (List Value)}, (∀ r ∈ rows, r.length = s) → ∀ (i j : Nat), j < s → (h : i < rows.length) → rows.flatten[i * s + j]? = (rows[i])[j]?
  | [], _, _, _, _, h => by simp at h
  | r :: rows, hr, i, j, hj, h => by
    have h0 : r.length = s := hr r (by simp)
    cases i with
    | zero => simp [List.getElem?_append_left (show j < r.length by omega)]
    | succ i =>
      have e : (i + 1) * s + j = i * s + j + s := by rw [Nat.add_mul]; omega
      rw [List.flatten_cons, List.getElem?_append_right (by omega), h0, e, Nat.add_sub_cancel]
      exact flatten_get (fun x hx => hr x (by simp [hx])) i j hj (by simpa using h)

theorem flatten_len {s : Nat} : ∀ {rows : List (List Value)}, (∀ r ∈ rows, r.length = s) → rows.flatten.length = rows.length * s
  | [], _ => by simp
  | r :: rows, hr => by
    rw [List.flatten_cons, List.length_append, hr r (by simp), flatten_len (fun x hx => hr x (by simp [hx]))]
    simp only [List.length_cons, Nat.add_mul]
    omega

/-- A reading by the rows: row i of s cells stands at 'a.add (i * s)'. -/
theorem reads_of_rows {B s n : Nat} {a : Addr} {rows : List (List Value)} (hb : 0 < n → a.block < B) (hl : rows.length = n) (hs : ∀ r ∈ rows, r.length = s)
    (hc : ∀ i (h : i < n), ∀ j, j < s → w.cell? ((a.add (i * s)).add j) = (rows[i]'(by omega))[j]?) : Reads w B s (some a) n rows.flatten := by
  refine ⟨by rw [flatten_len hs, hl], fun hn => ⟨a, rfl, hb hn, fun j u hu => ?_⟩⟩
  have hlt : j < n * s := by
    have h0 := (List.getElem?_eq_some_iff.1 hu).1
    rw [flatten_len hs, hl] at h0
    exact h0
  have hs0 : 0 < s := by
    rcases Nat.eq_zero_or_pos s with h | h
    · subst h; simp at hlt
    · exact h
  have hi : j / s < n := by rw [Nat.div_lt_iff_lt_mul hs0]; exact hlt
  have hm : j % s < s := Nat.mod_lt _ hs0
  have e : j / s * s + j % s = j := by rw [Nat.mul_comm]; exact Nat.div_add_mod j s
  have h1 := hc (j / s) hi (j % s) hm
  rw [add_of_add, e] at h1
  rw [h1, ← flatten_get hs (j / s) (j % s) hm (by omega), e]
  exact hu

/-- A slice argument: its rows. 'E': what the element's reading says of its cells. -/
theorem open_rows {t e : TypeId} {s B b0 : Nat} {v : Value} {d : DataW H} {ps : List MemPlace} (ht : P.underlying t = some (.slice e)) (hs : P.cellsOf e = s) (hs0 : 0 < s)
    (hv : Value.okWide P w .any b0 t v) (h : DataW.Trod enc P w base spare held t v d ps) (hlt : ∀ p ∈ ps, p.block < B) (hsp : ∀ a, spare a = true)
    (E : List Value → Prop) (hE : ∀ n cs' y, DataW.trod enc P w base spare held n e cs' = some y → (∀ p ∈ y.2, p.block < B) → E cs') :
    ∃ (A : Option Addr) (len cap : Nat) (rows : List (List Value)), v = .slice A len cap ∧ len ≤ cap ∧ cap ≤ maxLen ∧ rows.length = len ∧ Reads w B s A len rows.flatten ∧ ∀ r ∈ rows, r.length = s ∧ E r := by
  obtain ⟨A, len, cap, rfl⟩ := okWide_slice ht hv
  obtain ⟨fuel, hf⟩ := h
  rcases open_slice ht hf with ⟨hcs, _⟩ | ⟨a, len', cap', m, n, D, Pl, hcs, hba, hl, hm, hmm, hx, hi⟩
  · simp [Value.cells] at hcs
    obtain ⟨rfl, rfl, rfl⟩ := hcs
    exact ⟨none, 0, 0, [], rfl, Nat.le_refl _, Nat.zero_le _, rfl, Reads.none_, fun r hr => by cases hr⟩
  · simp [Value.cells] at hcs
    obtain ⟨rfl, rfl, rfl⟩ := hcs
    rw [hsp a.block, if_pos rfl] at hmm
    subst hmm
    simp only [Prod.mk.injEq] at hx
    rw [hs] at hx hi
    have hget : ∀ i, i < len → ∃ cs', (cs'.length = s ∧ ∀ j, j < s → w.cell? ((a.add (i * s)).add j) = cs'[j]?) ∧ E cs' := fun i h => by
      obtain ⟨cs', hc, htr⟩ := hi i (by omega)
      obtain ⟨_, h1, h2⟩ := World.cells?_some hc
      refine ⟨cs', ⟨h1, h2⟩, hE n cs' _ htr (fun p hp => hlt p ?_)⟩
      rw [hx.2, List.mem_append, List.mem_flatMap]
      exact .inr ⟨i, by simp; omega, hp⟩
    have hch : ∃ rows : List (List Value), rows.length = len ∧ ∀ i (h : i < rows.length), (rows[i].length = s ∧ ∀ j, j < s → w.cell? ((a.add (i * s)).add j) = rows[i][j]?) ∧ E rows[i] := by
      refine ⟨List.ofFn fun i : Fin len => (hget i.1 i.2).choose, by simp, fun i h => ?_⟩
      simp only [List.length_ofFn] at h
      simp only [List.getElem_ofFn]
      exact (hget i h).choose_spec
    obtain ⟨rows, hrl, hrows⟩ := hch
    have hall : ∀ r ∈ rows, r.length = s ∧ E r := fun r hr => by
      obtain ⟨i, hi, rfl⟩ := List.getElem_of_mem hr
      exact ⟨(hrows i hi).1.1, (hrows i hi).2⟩
    refine ⟨some a, len, _, rows, rfl, hl, hm, hrl, reads_of_rows (fun hn => ?_) hrl (fun r hr => (hall r hr).1) (fun i h j hj => (hrows i (by omega)).1.2 j hj), hall⟩
    refine hlt (.cell a.block (a.off + 0)) ?_
    rw [hx.2, List.mem_append]
    left
    unfold MemPlace.row
    rw [List.mem_map]
    refine ⟨0, ?_, rfl⟩
    rw [List.mem_range]
    exact Nat.mul_pos (by omega) hs0

/-- A slice of integers. -/
theorem open_words {t e : TypeId} {κ : IntKind} {B b0 : Nat} {v : Value} {d : DataW H} {ps : List MemPlace} (ht : P.underlying t = some (.slice e)) (he : P.underlying e = some (.int κ)) (hs : P.cellsOf e = 1)
    (hv : Value.okWide P w .any b0 t v) (h : DataW.Trod enc P w base spare held t v d ps) (hlt : ∀ p ∈ ps, p.block < B) (hsp : ∀ a, spare a = true) :
    ∃ A len cap l, v = .slice A len cap ∧ len ≤ cap ∧ cap ≤ maxLen ∧ l.length = len ∧ Reads w B 1 A len (ints κ l) ∧ ∀ x ∈ l, (Lit.int κ x).wf = true := by
  obtain ⟨A, len, cap, rows, hv, h1, h2, h3, h4, h5⟩ := open_rows ht hs (by omega) hv h hlt hsp (fun cs => ∃ x, cs = [.int κ x] ∧ (Lit.int κ x).wf = true) (fun n cs' y hy _ => by
    obtain ⟨x, h1, _, h3⟩ := DataW.trod_int he hy
    exact ⟨x, h1, h3⟩)
  have key : ∀ rows : List (List Value), (∀ r ∈ rows, r.length = 1 ∧ ∃ x, r = [Value.int κ x] ∧ (Lit.int κ x).wf = true) → ∃ l : List Int, l.length = rows.length ∧ ints κ l = rows.flatten ∧ ∀ x ∈ l, (Lit.int κ x).wf = true := by
    intro rows
    induction rows with
    | nil => intro _; exact ⟨[], rfl, rfl, by simp⟩
    | cons r rows ih =>
      intro h
      obtain ⟨l, e1, e2, e3⟩ := ih (fun r hr => h r (by simp [hr]))
      obtain ⟨x, rfl, hx⟩ := (h r (by simp)).2
      refine ⟨x :: l, by simp [e1], by simp [← e2, ints], fun y hy => ?_⟩
      rcases List.mem_cons.1 hy with rfl | hy
      · exact hx
      · exact e3 y hy
  obtain ⟨l, e1, e2, e3⟩ := key rows h5
  exact ⟨A, len, cap, l, hv, h1, h2, by omega, by rw [e2]; exact h4, e3⟩

/-- A slice of structs of two words. -/
theorem open_pairs {t e : TypeId} {f0 f1 : Field} {B b0 : Nat} {v : Value} {d : DataW H} {ps : List MemPlace} (ht : P.underlying t = some (.slice e)) (he : P.underlying e = some (.struct #[f0, f1]))
    (hone : oneCellFields P #[f0, f1] = true) (hf0 : P.underlying f0.type = some (.int .u64)) (hf1 : P.underlying f1.type = some (.int .u64)) (hs : P.cellsOf e = 2)
    (hv : Value.okWide P w .any b0 t v) (h : DataW.Trod enc P w base spare held t v d ps) (hlt : ∀ p ∈ ps, p.block < B) (hsp : ∀ a, spare a = true) :
    ∃ A len cap l, v = .slice A len cap ∧ len ≤ cap ∧ cap ≤ maxLen ∧ l.length = len ∧ Reads w B 2 A len (rec2 l) ∧ ∀ r ∈ l, W64 r.1 ∧ W64 r.2 := by
  obtain ⟨A, len, cap, rows, hv, h1, h2, h3, h4, h5⟩ := open_rows ht hs (by omega) hv h hlt hsp (fun cs => cs.length = 2 → ∃ x y, cs = [.int .u64 x, .int .u64 y] ∧ W64 x ∧ W64 y) (fun n cs' z hy _ hl => by
    obtain ⟨ys, n', hn', hy', hlen, hyl, hf⟩ := DataW.trod_struct he hy
    match cs', hl with
    | [a, b], _ =>
      obtain ⟨o0, k0⟩ := hone_of hone 0 f0 rfl
      obtain ⟨o1, k1⟩ := hone_of hone 1 f1 rfl
      match ys, hyl with
      | [y0, y1], _ =>
        have g0 := hf 0 f0 rfl
        have g1 := hf 1 f1 rfl
        simp [o0, o1, k0, k1] at g0 g1
        obtain ⟨x, hx, _, wx⟩ := DataW.trod_int hf0 g0
        obtain ⟨y, hy, _, wy⟩ := DataW.trod_int hf1 g1
        simp at hx hy
        exact ⟨x, y, by rw [hx, hy], W64.of_wf wx, W64.of_wf wy⟩)
  have key : ∀ rows : List (List Value), (∀ r ∈ rows, r.length = 2 ∧ (r.length = 2 → ∃ x y, r = [Value.int .u64 x, .int .u64 y] ∧ W64 x ∧ W64 y)) → ∃ l : List (Int × Int), l.length = rows.length ∧ rec2 l = rows.flatten ∧ ∀ r ∈ l, W64 r.1 ∧ W64 r.2 := by
    intro rows
    induction rows with
    | nil => intro _; exact ⟨[], rfl, rfl, by simp⟩
    | cons r rows ih =>
      intro h
      obtain ⟨l, e1, e2, e3⟩ := ih (fun r hr => h r (by simp [hr]))
      obtain ⟨h1, h2⟩ := h r (by simp)
      obtain ⟨x, y, rfl, hx, hy⟩ := h2 h1
      refine ⟨(x, y) :: l, by simp [e1], by simp [← e2, rec2], fun z hz => ?_⟩
      rcases List.mem_cons.1 hz with rfl | hz
      · exact ⟨hx, hy⟩
      · exact e3 z hz
  obtain ⟨l, e1, e2, e3⟩ := key rows h5
  exact ⟨A, len, cap, l, hv, h1, h2, by omega, by rw [e2]; exact h4, e3⟩

/-- A struct by value, whatever its one-cell fields: its cells, each with its own reading. -/
theorem open_flat {t : TypeId} {fs : Array Field} {b0 : Nat} {v : Value} {d : DataW H} {ps : List MemPlace} (ht : P.underlying t = some (.struct fs)) (hone : oneCellFields P fs = true) (hC : P.cellsOf t = fs.size)
    (hv : Value.okWide P w .any b0 t v) (h : DataW.Trod enc P w base spare held t v d ps) :
    ∃ l : List Value, v = .agg l.toArray ∧ l.length = fs.size ∧ ∀ (j : Nat) (f : Field), fs[j]? = some f → ∃ x n y, l[j]? = some x ∧ DataW.trod enc P w base spare held n f.type [x] = some y ∧ ∀ p ∈ y.2, p ∈ ps := by
  obtain ⟨cs, rfl, hsz⟩ := okWide_struct ht hv
  obtain ⟨l⟩ := cs
  have hl : l.length = fs.size := by simpa using hsz.trans hC
  obtain ⟨fuel, hf⟩ := h
  obtain ⟨ys, n, _, hx, _, hlen, hg⟩ := DataW.trod_struct ht hf
  simp only [Prod.mk.injEq] at hx
  refine ⟨l, rfl, hl, fun j f hj => ?_⟩
  obtain ⟨ho, hk⟩ := hone_of hone j f hj
  have hjl : j < fs.size := (Array.getElem?_eq_some_iff.1 hj).1
  have h1 := hg j f hj
  rw [ho, hk] at h1
  have hone' : ((Value.agg l.toArray).cells.toList.drop j).take 1 = [l[j]'(by omega)] := by
    show (l.drop j).take 1 = _
    rw [List.drop_eq_getElem_cons (by omega)]
    rfl
  rw [hone'] at h1
  have hys : ys[j]? = some (ys[j]'(by omega)) := List.getElem?_eq_getElem (by omega)
  refine ⟨l[j]'(by omega), n, ys[j]'(by omega), List.getElem?_eq_getElem (by omega), h1.trans hys, fun p hp => ?_⟩
  rw [hx.2, List.mem_flatMap]
  exact ⟨ys[j]'(by omega), List.getElem_mem _, hp⟩

/-- A struct of five ints by value. -/
theorem open_five {t : TypeId} {κ : IntKind} {f0 f1 f2 f3 f4 : Field} {b0 : Nat} {v : Value} {d : DataW H} {ps : List MemPlace} (ht : P.underlying t = some (.struct #[f0, f1, f2, f3, f4])) (hone : oneCellFields P #[f0, f1, f2, f3, f4] = true) (hC : P.cellsOf t = 5)
    (k0 : P.underlying f0.type = some (.int κ)) (k1 : P.underlying f1.type = some (.int κ)) (k2 : P.underlying f2.type = some (.int κ)) (k3 : P.underlying f3.type = some (.int κ)) (k4 : P.underlying f4.type = some (.int κ))
    (hv : Value.okWide P w .any b0 t v) (h : DataW.Trod enc P w base spare held t v d ps) :
    ∃ a0 a1 a2 a3 a4, v = .agg #[.int κ a0, .int κ a1, .int κ a2, .int κ a3, .int κ a4] ∧ (Lit.int κ a0).wf = true ∧ (Lit.int κ a1).wf = true ∧ (Lit.int κ a2).wf = true ∧ (Lit.int κ a3).wf = true ∧ (Lit.int κ a4).wf = true := by
  obtain ⟨l, rfl, hl, hf⟩ := open_flat ht hone hC hv h
  match l, hl with
  | [x0, x1, x2, x3, x4], _ =>
    obtain ⟨y0, n0, z0, e0, g0, _⟩ := hf 0 f0 rfl
    obtain ⟨y1, n1, z1, e1, g1, _⟩ := hf 1 f1 rfl
    obtain ⟨y2, n2, z2, e2, g2, _⟩ := hf 2 f2 rfl
    obtain ⟨y3, n3, z3, e3, g3, _⟩ := hf 3 f3 rfl
    obtain ⟨y4, n4, z4, e4, g4, _⟩ := hf 4 f4 rfl
    obtain ⟨a0, h0, _, w0⟩ := DataW.trod_int k0 g0
    obtain ⟨a1, h1, _, w1⟩ := DataW.trod_int k1 g1
    obtain ⟨a2, h2, _, w2⟩ := DataW.trod_int k2 g2
    obtain ⟨a3, h3, _, w3⟩ := DataW.trod_int k3 g3
    obtain ⟨a4, h4, _, w4⟩ := DataW.trod_int k4 g4
    simp at e0 e1 e2 e3 e4 h0 h1 h2 h3 h4
    exact ⟨a0, a1, a2, a3, a4, by rw [e0, e1, e2, e3, e4, h0, h1, h2, h3, h4], w0, w1, w2, w3, w4⟩
end
end Go.Proofs.YtokcbipmocpllaaDoor

