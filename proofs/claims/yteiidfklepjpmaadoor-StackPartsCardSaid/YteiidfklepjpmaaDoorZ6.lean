/-
  The Go function parted of StackParts.
-/
import Derived.Test.YteiidfklepjpmaaDoorZ5
import Derived.Deep.RegionHeld3
import Derived.Deep.RegionWith
import Derived.Laws.StructEq
import Derived.ProofKit
import Derived.Deep.Slices
import Derived.Deep.Fields
namespace Go.Proofs.YteiidfklepjpmaaDoor
open Go.RowKit
attribute [local go_sem] past_cell past_cell_add

def ownK (F : List Int) (own : Nat → List Int) (k : Nat) : List Int := F ++ (List.range k).flatMap own
theorem ownK_succ (F : List Int) (own : Nat → List Int) (k : Nat) : ownK F own (k + 1) = ownK F own k ++ own k := by
  unfold ownK
  rw [List.range_succ, List.flatMap_append]
  simp
theorem ownK_le (F : List Int) (own : Nat → List Int) (k d : Nat) : (ownK F own k).length ≤ (ownK F own (k + d)).length := by
  induction d with
  | zero => exact Nat.le_refl _
  | succ d ih => rw [← Nat.add_assoc, ownK_succ, List.length_append]; omega
theorem ints_oneP (l : List Int) : ∀ u ∈ ints .i64 l, u.oneCell' = true := by
  intro u hu
  obtain ⟨x, _, rfl⟩ := List.mem_map.1 hu
  rfl
def PtIn (F : List Int) (own : Nat → List Int) (s t f l p : Int) (w : World) (v i : Value) (wr : World) : Prop :=
  ∃ (k : Nat) (A : Option Addr) (c : Nat), i = .int .i64 (k : Int) ∧ k ≤ 4 ∧ v = .slice A (ownK F own k).length c ∧ wr.ownsRow (w.heap.size + 1) 3 1 (.slice A (ownK F own k).length c) (ownK F own k).length (ints .i64 (ownK F own k)) ∧ Blk wr w.heap.size 23 #[.int .i64 s, .int .i64 t, .int .i64 f, .int .i64 l, .int .i64 p] ∧ w.heap.size + 1 ≤ wr.heap.size ∧ Below w.heap.size w wr
def PtHas (q : List Int) (A : Option Addr) (c : Nat) (s t f l p : Int) (w : World) (i : Value) (wr : World) : Prop :=
  ∃ j : Nat, i = .int .i64 (j : Int) ∧ 2 ≤ j ∧ ((j : Int) ≤ s + 1) ∧ wr.ownsRow (w.heap.size + 1) 3 1 (.slice A q.length c) q.length (ints .i64 q) ∧ Blk wr w.heap.size 23 #[.int .i64 s, .int .i64 t, .int .i64 f, .int .i64 l, .int .i64 p] ∧ Below w.heap.size w wr
set_option linter.unusedSimpArgs false in
set_option maxRecDepth 100000 in
set_option maxHeartbeats 2000000 in
theorem parted_any (g gW : Nat) (s t f l p : Int) (N cW c4 : Nat) (ws F : List Int) (own : Nat → List Int) (w : World) (hs : 1 ≤ s ∧ s ≤ 1000) (ht : 1 ≤ t ∧ t ≤ 64) (hf : 4 ≤ f ∧ f ≤ 64) (hN : laySize s t f = N) (hl : ws.length = N) (R : RefOk w gW ws) (h64 : AllW64 ws)
    (hF : frR ws s t f = (F, true)) (hlen : (ownK F own 4).length = (s - 1).toNat) (hin : ∀ k, 2 ≤ k → k ≤ s → k ∈ ownK F own 4) (hg : g < w.heap.size)
    (hC : ∀ k, k < 4 → ∃ A n c, w.cell? ⟨g, k * 22 + 21, none⟩ = some (.slice A n c) ∧ Reads w w.heap.size 1 A n (ints .i64 (own k))) :
    Calls Tryd.prog 11 #[.agg #[.int .i64 s, .int .i64 t, .int .i64 f, .int .i64 l, .int .i64 p], .slice (some ⟨gW, 0, none⟩) N cW, .slice (some ⟨g, 0, none⟩) 4 c4] w fun e w' => e = .returned (.bool true) ∧ Below w.heap.size w w' := by
  obtain ⟨i0, hi0, hz0, hs0, hb0⟩ := info_parts infoI10
  have FR := hide (fun w2 (h : RefOk w2 gW ws) => rfree_any gW s t f l p N cW ws w2 (by omega) ht hf hN hl h h64)
  rw [hF] at FR
  simp only at FR
  have HA := hide (fun A n c q x w2 hn hr => rhas10_any A n c q x w2 hn hr)
  have HL := hide hlen
  have HI := hide hin
  have HC := hide hC
  have HS := hide hs
  have hw1 : IntKind.i64.wrap (s - 1) = s - 1 := IntWalk.i64_in _ (by omega)
  have HG := hide hg
  have hls := hide (show ((ownK F own 4).length : Int) = s - 1 by rw [hlen]; omega)
  clear hF hN hl h64 hin hC ht hf hlen hs hg
  have B0 := (Below.refl w.heap.size w).alloc (Nat.le_refl _) (.cells #[.int .i64 s, .int .i64 t, .int .i64 f, .int .i64 l, .int .i64 p] 23)
  have bc := Blk.new w 23 #[.int .i64 s, .int .i64 t, .int .i64 f, .int .i64 l, .int .i64 p]
  have R1 : RefOk (w.alloc (.cells #[.int .i64 s, .int .i64 t, .int .i64 f, .int .i64 l, .int .i64 p] 23)) gW ws := R.below ((Below.refl w.heap.size w).alloc (Nat.le_refl _) _)
  clear R
  go_enter Tryd.func11, Tryd.ntmps11
  go_wp2_with fail
  refine (FR.out _ R1).mono ?_
  rintro e w1 ⟨⟨A, c, rfl, ho⟩, hb1⟩
  have hz : w.heap.size + 1 ≤ w1.heap.size := by have := hb1.size; rw [World.size_alloc] at this; exact this
  replace B0 := B0.trans (hb1.mono B0.size)
  replace bc := bc.below hb1 bc.lt
  have ho1 := own_mono ho (show w.heap.size + 1 ≤ (w.alloc (.cells #[.int .i64 s, .int .i64 t, .int .i64 f, .int .i64 l, .int .i64 p] 23)).heap.size + 1 by rw [World.size_alloc]; omega)
  clear hb1 ho R1 FR
  go_wp2_with fail
  go_loopw [9, 10] (PtIn F own s t f l p w) (fun _ i _ => 4 - (intOf i).toNat)
  case atStart =>
    have e0 : ownK F own 0 = F := by simp [ownK]
    exact ⟨0, A, c, rfl, by omega, by rw [e0], by rw [e0]; exact ho1, bc, hz, B0⟩
  case round =>
    clear ho1 bc hz B0
    obtain ⟨k, A, c, rfl, hk4, rfl, ho, bc, hz, B⟩ := hrel
    have mc := fun i => bc.cell i
    by_cases hk : k < 4
    · obtain ⟨Ak, nk, ck, e1, hr⟩ := HC.out k hk
      have e1' : _ := (World.cell?_of_block (B.block g HG.out)).trans e1
      have hr' := hr.below B
      have hnk := hr.1
      rw [ints_len, Nat.mul_one] at hnk
      have hsum := hide (show (ownK F own k).length + nk ≤ 1000 by
        have h9 := ownK_le F own (k + 1) (3 - k)
        rw [show k + 1 + (3 - k) = 4 by omega, HL.out, ownK_succ, List.length_append] at h9
        have := HS.out
        omega)
      have HK := hide hk
      have hki : (k : Int) < 4 := by omega
      go_wp2_with (at_builtin
                   refine wpList_append_any _ rfl (.tmp 25) (.tmp 30) _ rfl (w.heap.size + 1) 3 i0 _ 1 8 Tryd.underlying24 hi0 hz0 hs0 hb0 rfl (by omega) (.slice A (ownK F own k).length c) (ownK F own k).length _ rfl ho w.heap.size Ak nk ck (ints .i64 (own k)) rfl hr' (ints_oneP _) (by unfold maxLen; have := hsum.out; omega) (by have := hsum.out; omega) hz ?_
                   intro v3 w3 ho3 hg3 hat3)
      have B3 := below_appended B ho hg3 (by omega) (by omega)
      have bc3 := blk_appended bc ho hg3 (by omega)
      have hz3 := Nat.le_trans hz hg3.size
      have e3 : (ownK F own k).length + nk = (ownK F own (k + 1)).length := by rw [ownK_succ, List.length_append, hnk]
      rw [← ints_append, ← ownK_succ, e3] at ho3
      obtain ⟨A3, c3, rfl, hr3⟩ := own_reads ho3
      go_roundw
      case measure => (simp [intOf] <;> omega)
      case rel => exact ⟨k + 1, A3, c3, by go_num, by have := HK.out; omega, rfl, ho3, bc3, hz3, B3⟩
    · have hke : k = 4 := by omega
      have e4 : ownK F own k = ownK F own 4 := by rw [hke]
      rw [e4] at ho ⊢
      have hnk4 : ¬ (k : Int) < 4 := by omega
      clear hke hk4 hk e4
      have hq : (((ownK F own 4).length : Int) != s - 1) = false := by simp [hls.out]
      have hqb := hide (show (ownK F own 4).length ≤ 1000 by have := HL.out; have := HS.out; omega)
      have HI2 := HI
      clear HI HL hls HC
      generalize ownK F own 4 = q at *
      go_wp2_with fail
      go_loopw [11] (PtHas q A c s t f l p w) (fun i _ => s.toNat + 1 - (intOf i).toNat)
      case atStart => exact ⟨2, rfl, by omega, by have := HS.out; omega, ho, bc, B⟩
      case round =>
        clear ho bc hz B mc
        obtain ⟨j, rfl, hj2, hjs, ho, bc, B⟩ := hrel
        have mc := fun i => bc.cell i
        have HJ := hide hj2
        have HJS := hide hjs
        clear hj2 hjs
        by_cases hjl : (j : Int) ≤ s
        · obtain ⟨A', c', e0x, hrd⟩ := own_reads ho
          simp only [Value.slice.injEq, true_and] at e0x
          obtain ⟨rfl, rfl⟩ := e0x
          have HQ := hide (fun w2 hr => HA.out A q.length c q (j : Int) w2 (by have := hqb.out; omega) hr)
          rw [decide_eq_true (HI2.out (j : Int) (by have := HJ.out; omega) hjl)] at HQ
          have HRD := hide hrd
          have HJL := hide hjl
          clear hrd
          have hj1 : IntKind.i64.wrap ((j : Int) + 1) = (j : Int) + 1 := IntWalk.i64_in _ (by have := HS.out; omega)
          go_wp2_with fail
          refine (HQ.out _ HRD.out).mono ?_
          rintro e w4 ⟨rfl, hb1⟩
          replace ho := own_below ho hb1
          replace bc := bc.below hb1 bc.lt
          replace B := B.trans (hb1.mono B.size)
          clear hb1 mc
          go_wp2_with fail
          go_roundw
          case measure => (simp [intOf] <;> omega)
          case rel => exact ⟨j + 1, by go_num, by have := HJ.out; omega, by have := HJL.out; omega, ho, bc, B⟩
        · go_wp2_with fail
          go_ret
          exact ⟨rfl, B⟩
end Go.Proofs.YteiidfklepjpmaaDoor

/-
  The four workers of StackParts: what the invariant gives to begin, step and parted.
-/
namespace Go.Proofs.YteiidfklepjpmaaDoor
open Go.RowKit
attribute [local go_sem] past_cell past_cell_add

section
variable {w : World} {g gW lo N q : Nat} {y0 : LT} {ws : List Int} {X : Nat → Wk} {s t f n : Int}
theorem StP.busy (h : StP w g gW lo y0 ws X) (hq : q < 4) : w.cell? ⟨g, q * 22 + 1, none⟩ = some (.bool (X q).busy) := by
  obtain ⟨h1, h2, M, Ao, h3, h4, h5⟩ := h
  obtain ⟨pre, post, hp, hfl⟩ := fl4_mid M (fun q hq => (h4 q hq).len) q hq
  obtain ⟨y, z, c, e, _⟩ := h4 q hq
  have hm : Mid w g 41 pre (M q) post := by
    unfold Mid
    rw [← hfl, upd_self]
    exact h3
  rw [e] at hm
  exact hm.cell hp 1 (by simp [wkL])
theorem StP.own (h : StP w g gW lo y0 ws X) (hq : q < 4) : ∃ A n c, w.cell? ⟨g, q * 22 + 21, none⟩ = some (.slice A n c) ∧ Reads w w.heap.size 1 A n (ints .i64 (X q).own) := by
  obtain ⟨h1, h2, M, Ao, h3, h4, h5⟩ := h
  obtain ⟨pre, post, hp, hfl⟩ := fl4_mid M (fun q hq => (h4 q hq).len) q hq
  obtain ⟨y, z, c, e, ow, _⟩ := h4 q hq
  have hm : Mid w g 41 pre (M q) post := by
    unfold Mid
    rw [← hfl, upd_self]
    exact h3
  rw [e] at hm
  exact ⟨Ao q, _, c, hm.cell hp 21 (by simp [wkL]), ow.reads⟩
theorem StP.lt (h : StP w g gW lo y0 ws X) : g < w.heap.size := by
  obtain ⟨h1, h2, M, Ao, h3, _⟩ := h
  exact h3.lt
def li4 (X : Nat → Wk) : List Wk := [X 0, X 1, X 2, X 3]
theorem li4_mid (X : Nat → Wk) (q : Nat) (hq : q < 4) : ∃ l1 l2, ∀ v, li4 (upd X q v) = l1 ++ v :: l2 := by
  obtain rfl | rfl | rfl | rfl : q = 0 ∨ q = 1 ∨ q = 2 ∨ q = 3 := by omega
  · exact ⟨[], [X 1, X 2, X 3], fun v => by simp [li4, upd]⟩
  · exact ⟨[X 0], [X 2, X 3], fun v => by simp [li4, upd]⟩
  · exact ⟨[X 0, X 1], [X 3], fun v => by simp [li4, upd]⟩
  · exact ⟨[X 0, X 1, X 2], [], fun v => by simp [li4, upd]⟩
theorem inv4_begin (hs : 1 ≤ s ∧ s ≤ 1000) (h : Inv s t f N n ws (li4 X)) (hq : q < 4) (odd : Bool) : Inv s t f N n ws (li4 (upd X q (wBegin odd (X q)))) := by
  obtain ⟨l1, l2, hl⟩ := li4_mid X q hq
  have e := hl (X q)
  rw [upd_self] at e
  rw [e] at h
  rw [hl]
  exact inv_begin hs h odd
theorem inv4_step (hs : 1 ≤ s ∧ s ≤ 1000) (ht : 1 ≤ t) (hf : 4 ≤ f) (h2N : 2 < N) (hNB : ∀ k, 0 ≤ k → k ≤ s → nB t f k + 2 < N) (hn : n ≤ 900) (h : Inv s t f N n ws (li4 X)) (hq : q < 4) (hb : (X q).busy = true) :
    Inv s t f N (n + 1) (wWords t f ws (X q)) (li4 (upd X q (wStep s t f ws (X q)))) := by
  obtain ⟨l1, l2, hl⟩ := li4_mid X q hq
  have e := hl (X q)
  rw [upd_self] at e
  rw [e] at h
  rw [hl]
  exact inv_step hs ht hf h2N hNB hn h hb
theorem wBegin_busy (odd : Bool) (x : Wk) : (wBegin odd x).busy = true := by
  unfold wBegin
  split <;> rfl
theorem mDo_out64 (h : AllW64 ws) (k a o n : Int) : W64 (mDo ws k a o n).1 := by
  unfold mDo
  split
  · exact wGet_w64 h a
  · split
    · exact ⟨by omega, by omega⟩
    · split
      · exact ⟨by omega, by omega⟩
      · exact ⟨by omega, by omega⟩
theorem inv4_facts (hs : 1 ≤ s ∧ s ≤ 1000) (h : Inv s t f N n ws (li4 X)) (hq : q < 4) : (∀ x ∈ (X q).own, 1 ≤ x ∧ x ≤ s) ∧ (X q).own.length ≤ 1000 ∧
    ((X q).busy = true → ((X q).pops = true → PpOk s (X q).px) ∧ ((X q).pops = false → PsIn s (X q).ux ∧ (X q).own ≠ [])) := by
  obtain ⟨l1, l2, hl⟩ := li4_mid X q hq
  have e := hl (X q)
  rw [upd_self] at e
  rw [e] at h
  obtain ⟨hw, F, h1, h2, h3⟩ := h
  refine ⟨fun x hx => ?_, ?_, fun hb => ?_⟩
  · have := parts_in h2 hs.1 (z := x) (by rw [fm_cons]; simp [hx])
    omega
  · have := h2.length_eq
    rw [fm_cons] at this
    simp only [List.length_append] at this
    have hr : (rg2 (s - 1).toNat).length = (s - 1).toNat := by unfold rg2; simp
    omega
  · have := h3 (X q) (by simp) hb
    refine ⟨fun hp => (this.1 hp).1, fun hp => ⟨(this.2 hp).1, ?_⟩⟩
    obtain ⟨_, _, ⟨o, ho⟩, _⟩ := this.2 hp
    rw [ho]
    simp
theorem inv4_parted (hs : 1 ≤ s ∧ s ≤ 1000) (h : Inv s t f N n ws (li4 X)) : ∃ F, frR ws s t f = (F, true) ∧ (ownK F (fun k => (X k).own) 4).length = (s - 1).toNat ∧ ∀ k, 2 ≤ k → k ≤ s → k ∈ ownK F (fun k => (X k).own) 4 := by
  obtain ⟨F, h1, h2, h3⟩ := inv_parted hs h
  have e : ownK F (fun k => (X k).own) 4 = F ++ (li4 X).flatMap (·.own) := by simp [ownK, li4, List.range_succ]
  refine ⟨F, h1, by rw [e]; exact h2, fun k h4 h5 => ?_⟩
  rw [e]
  exact h3 k h4 h5
theorem wWords_len (x : Wk) : (wWords t f ws x).length = ws.length := by
  unfold wWords popAsk pushAsk
  split <;> rw [mDo_len]
end
end Go.Proofs.YteiidfklepjpmaaDoor

/-
  Chapter 15's example (Pop); the Go function StackPops.
-/
namespace Go.Proofs.YteiidfklepjpmaaDoor
open Go.RowKit
attribute [local go_sem] past_cell past_cell_add

theorem sask_neq (k a o n : Int) (w : World) : (binOp .neq 52 (.agg #[.int .i64 k, .int .i64 a, .int .u64 o, .int .u64 n]) (.agg #[.int .i64 k, .int .i64 a, .int .u64 o, .int .u64 n])).run Tryd.prog w = .ok (.bool false) w := by
  have hs : Tryd.prog.stoodInHeld 52 = false := by kernel_rfl
  rw [run_neq_struct, show (10000 : Nat) = 9999 + 1 from rfl, run_equalIn_agg _ _ _ _ _ (by kernel_rfl) hs]
  simp [Program.fieldsOf, Tryd.underlying52, Tryd.underlying3, Tryd.underlying33, Op.eqFields, run_equalIn_int, go_sem]
theorem sask_eql (k a o n : Int) (w : World) : (binOp .eql 52 (.agg #[.int .i64 k, .int .i64 a, .int .u64 o, .int .u64 n]) (.agg #[.int .i64 k, .int .i64 a, .int .u64 o, .int .u64 n])).run Tryd.prog w = .ok (.bool true) w := by
  have hs : Tryd.prog.stoodInHeld 52 = false := by kernel_rfl
  rw [run_eql_struct, show (10000 : Nat) = 9999 + 1 from rfl, run_equalIn_agg _ _ _ _ _ (by kernel_rfl) hs]
  simp [Program.fieldsOf, Tryd.underlying52, Tryd.underlying3, Tryd.underlying33, Op.eqFields, run_equalIn_int, go_sem]
set_option maxRecDepth 100000 in
set_option maxHeartbeats 2000000 in
theorem awake15 (w : World) (hT : Tab w) : Calls Tryd.prog 6 #[] w fun e w' => e = .returned (.bool true) ∧ Below w.heap.size w w' := by
  have NL := hide (new_yes 3 1 4 1 1 w hT (by decide))
  have N := hide (fun w2 => pnew_yes 3 1 4 1 1 w2 (by omega) (by omega) (by omega))
  have T1 := hide (fun w2 => ptook_1y 3 1 4 1 1 0 0 0 0 2 w2 ⟨by omega, by omega⟩ (by omega) (by omega))
  rw [show ((2 : Int) % 65536) = 2 from rfl] at T1
  have T2 := hide (fun w2 => ptook_2y 3 1 4 1 1 2 2 0 0 3 w2 ⟨by omega, by omega⟩ (by omega) (by omega))
  have T3 := hide (fun w2 => ptook_3y 3 1 4 1 1 2 2 0 3 w2)
  have D := hide (fun w2 => pdone_0 3 1 4 1 1 2 2 0 3 w2)
  have W := hide (fun w2 => pwant_3 3 1 4 1 1 2 2 0 3 w2 (by omega) (by omega) (by omega) ⟨by omega, by omega⟩ (by omega))
  rw [show hturn 2 3 = 65539 by decide] at W
  have Q := sask_eql 3 2 2 65539
  go_enter Tryd.func6, Tryd.ntmps6
  go_wp2_with fail
  refine (NL.out).mono ?_
  rintro e w1 ⟨rfl, B0⟩
  go_wp2_with fail
  refine (N.out _).mono ?_
  rintro e w2 ⟨rfl, hb1⟩
  replace B0 := B0.trans (hb1.mono B0.size)
  clear hb1
  go_wp2_with fail
  refine (T1.out _).mono ?_
  rintro e w3 ⟨rfl, hb1⟩
  replace B0 := B0.trans (hb1.mono B0.size)
  clear hb1
  go_wp2_with fail
  refine (T2.out _).mono ?_
  rintro e w4 ⟨rfl, hb1⟩
  replace B0 := B0.trans (hb1.mono B0.size)
  clear hb1
  have bx := Blk.new w4 37 #[.int .i64 3, .int .i64 1, .int .i64 4, .int .i64 1, .int .i64 1, .int .i64 3, .int .i64 2, .int .u64 2, .int .i64 0, .int .i64 3]
  replace B0 := B0.alloc B0.size (.cells #[.int .i64 3, .int .i64 1, .int .i64 4, .int .i64 1, .int .i64 1, .int .i64 3, .int .i64 2, .int .u64 2, .int .i64 0, .int .i64 3] 37)
  go_wp2_with fail
  refine (T3.out _).mono ?_
  rintro e w5 ⟨rfl, hb1⟩
  replace bx := bx.below hb1 bx.lt
  replace B0 := B0.trans (hb1.mono B0.size)
  clear hb1
  try clear mx lx
  try clear mo lo zo
  try clear my ly zy
  try have mx := fun i => bx.cell i
  try have lx := bx.lt
  try have mo := fun i => bo.cell i
  try have lo := bo.lt
  try have zo := fun i => bo.frozen i
  try have my := fun i => by_.cell i
  try have ly := by_.lt
  try have zy := fun i => by_.frozen i
  go_wp2_with fail
  refine (D.out _).mono ?_
  rintro e w6 ⟨rfl, hb1⟩
  replace bx := bx.below hb1 bx.lt
  replace B0 := B0.trans (hb1.mono B0.size)
  clear hb1
  try clear mx lx
  try clear mo lo zo
  try clear my ly zy
  try have mx := fun i => bx.cell i
  try have lx := bx.lt
  try have mo := fun i => bo.cell i
  try have lo := bo.lt
  try have zo := fun i => bo.frozen i
  try have my := fun i => by_.cell i
  try have ly := by_.lt
  try have zy := fun i => by_.frozen i
  go_wp2_with fail
  refine (W.out _).mono ?_
  rintro e w8 ⟨rfl, hb1⟩
  replace B0 := B0.trans (hb1.mono B0.size)
  clear hb1 bx mx lx
  go_wp2_with fail
  go_ret
  exact ⟨rfl, B0⟩
end Go.Proofs.YteiidfklepjpmaaDoor

/-
  The Go function StackParts.
-/
namespace Go.Proofs.YteiidfklepjpmaaDoor
open Go.RowKit
attribute [local go_sem] past_cell past_cell_add

set_option linter.unusedSimpArgs false in
set_option maxRecDepth 100000 in
set_option maxHeartbeats 2000000 in
theorem parts_big (s t f l p : Int) (A : Option Addr) (n c : Nat) (w : World) (hT : Tab w) (h1 : (400 : Int) < n) :
    Calls Tryd.prog 3 #[.agg #[.int .i64 s, .int .i64 t, .int .i64 f, .int .i64 l, .int .i64 p], .slice A n c] w fun e w' => e = .returned (.bool true) ∧ Below w.heap.size w w' := by
  have B0 := (Below.refl w.heap.size w).alloc (Nat.le_refl _) (.cells #[.int .i64 s, .int .i64 t, .int .i64 f, .int .i64 l, .int .i64 p] 23)
  have bc := Blk.new w 23 #[.int .i64 s, .int .i64 t, .int .i64 f, .int .i64 l, .int .i64 p]
  have AW := hide (fun w2 (hB : Below w.heap.size w w2) => awake15 w2 (hT.below hB))
  have HT := hide hT
  clear hT
  have d0 : decide ((400 : Int) < (n : Int)) = true := (by rw [decide_eq_true_iff]; omega)
  clear h1
  have mc := fun i => bc.cell i
  go_enter Tryd.func3, Tryd.ntmps3
  go_wp2_with fail
  refine (AW.out _ B0).mono ?_
  rintro e wz ⟨rfl, hb1⟩
  go_wp2_with fail
  go_ret
  exact ⟨rfl, B0.trans (hb1.mono B0.size)⟩
set_option linter.unusedSimpArgs false in
set_option maxRecDepth 100000 in
set_option maxHeartbeats 2000000 in
theorem parts_wrong (s t f l p : Int) (A : Option Addr) (n c : Nat) (w : World) (hT : Tab w) (h1 : ¬ (400 : Int) < n) (hw0 : 0 ≤ wrg s t f l p) :
    Calls Tryd.prog 3 #[.agg #[.int .i64 s, .int .i64 t, .int .i64 f, .int .i64 l, .int .i64 p], .slice A n c] w fun e w' => e = .returned (.bool true) ∧ Below w.heap.size w w' := by
  have B0 := (Below.refl w.heap.size w).alloc (Nat.le_refl _) (.cells #[.int .i64 s, .int .i64 t, .int .i64 f, .int .i64 l, .int .i64 p] 23)
  have bc := Blk.new w 23 #[.int .i64 s, .int .i64 t, .int .i64 f, .int .i64 l, .int .i64 p]
  have AW := hide (fun w2 (hB : Below w.heap.size w w2) => awake15 w2 (hT.below hB))
  have HT := hide hT
  clear hT
  have WR := hide (fun w2 => wrong_any s t f l p w2)
  generalize wrg s t f l p = wr0 at *
  have d0 : decide ((400 : Int) < (n : Int)) = false := (by rw [decide_eq_false_iff_not]; omega)
  have d1 : decide ((0 : Int) ≤ wr0) = true := (by rw [decide_eq_true_iff]; omega)
  clear h1 hw0
  have mc := fun i => bc.cell i
  go_enter Tryd.func3, Tryd.ntmps3
  go_wp2_with fail
  refine (WR.out _).mono ?_
  rintro e w1 ⟨rfl, hb1⟩
  clear mc
  replace bc := bc.below hb1 bc.lt
  replace B0 := B0.trans (hb1.mono B0.size)
  clear hb1
  have mc := fun i => bc.cell i
  go_wp2_with fail
  refine (AW.out _ B0).mono ?_
  rintro e wz ⟨rfl, hb1⟩
  go_wp2_with fail
  go_ret
  exact ⟨rfl, B0.trans (hb1.mono B0.size)⟩
set_option linter.unusedSimpArgs false in
set_option maxRecDepth 100000 in
set_option maxHeartbeats 2000000 in
theorem parts_size (s t f l p : Int) (A : Option Addr) (n c : Nat) (w : World) (hT : Tab w) (hc : cfgOk s t f l p = true) (h1 : ¬ (400 : Int) < n) (h2 : (5000 : Int) < laySize s t f) :
    Calls Tryd.prog 3 #[.agg #[.int .i64 s, .int .i64 t, .int .i64 f, .int .i64 l, .int .i64 p], .slice A n c] w fun e w' => e = .returned (.bool true) ∧ Below w.heap.size w w' := by
  have B0 := (Below.refl w.heap.size w).alloc (Nat.le_refl _) (.cells #[.int .i64 s, .int .i64 t, .int .i64 f, .int .i64 l, .int .i64 p] 23)
  have bc := Blk.new w 23 #[.int .i64 s, .int .i64 t, .int .i64 f, .int .i64 l, .int .i64 p]
  have AW := hide (fun w2 (hB : Below w.heap.size w w2) => awake15 w2 (hT.below hB))
  have HT := hide hT
  clear hT
  have hwr : wrg s t f l p < 0 := by have := wrg_ok (s := s) (t := t) (f := f) (l := l) (p := p); rw [hc] at this; simpa using this.symm
  have WR := hide (fun w2 => wrong_any s t f l p w2)
  have RS := hide (fun w2 => rsize_any s t f l p w2)
  rw [show rSize s t f l p = laySize s t f by unfold rSize; rw [if_pos hc]] at RS
  clear hc
  generalize wrg s t f l p = wr0 at *
  generalize laySize s t f = N at *
  have d0 : decide ((400 : Int) < (n : Int)) = false := (by rw [decide_eq_false_iff_not]; omega)
  have d1 : decide ((0 : Int) ≤ wr0) = false := (by rw [decide_eq_false_iff_not]; omega)
  have d2 : decide ((5000 : Int) < N) = true := (by rw [decide_eq_true_iff]; omega)
  clear hwr h1 h2
  have mc := fun i => bc.cell i
  go_enter Tryd.func3, Tryd.ntmps3
  go_wp2_with fail
  refine (WR.out _).mono ?_
  rintro e w1 ⟨rfl, hb1⟩
  clear mc
  replace bc := bc.below hb1 bc.lt
  replace B0 := B0.trans (hb1.mono B0.size)
  clear hb1
  have mc := fun i => bc.cell i
  go_wp2_with fail
  refine (RS.out _).mono ?_
  rintro e w2 ⟨rfl, hb1⟩
  clear mc
  replace bc := bc.below hb1 bc.lt
  replace B0 := B0.trans (hb1.mono B0.size)
  clear hb1
  have mc := fun i => bc.cell i
  go_wp2_with fail
  refine (AW.out _ B0).mono ?_
  rintro e wz ⟨rfl, hb1⟩
  go_wp2_with fail
  go_ret
  exact ⟨rfl, B0.trans (hb1.mono B0.size)⟩
def row0 : List Value := wkL false false (0, 0, 0, 0, 0) (0, 0, 0, 0, 0) (0, 0, 0, 0, 0) (0, 0, 0, 0) none 0 0
theorem infoWk : (Tryd.prog.info? 41).map (fun i => (i.zero.map (·.cells), i.size, decide (i.bytes ≤ 4096))) = some (some row0.toArray, 22, true) := by kernel_rfl
theorem made_wk : madeCells row0.toArray 88 = (fl4 (fun _ => row0)).toArray := by kernel_rfl
theorem make_wk (w : World) : (Instr.makeSlice 32 (.int .i64 4) (.int .i64 4)).run Tryd.prog w = .ok (.slice (some ⟨w.heap.size, 0, none⟩) 4 4) (w.alloc (.cells (fl4 (fun _ => row0)).toArray 41)) := by
  have h := infoWk
  cases hi : Tryd.prog.info? 41 with
  | none => rw [hi] at h; cases h
  | some i =>
    rw [hi] at h
    simp only [Option.map_some, Option.some.injEq, Prod.mk.injEq, decide_eq_true_eq] at h
    obtain ⟨h1, h2, h3⟩ := h
    cases hz : i.zero with
    | none => rw [hz] at h1; cases h1
    | some z =>
      rw [hz] at h1
      simp only [Option.map_some, Option.some.injEq] at h1
      have := run_make (P := Tryd.prog) w 32 41 i z Tryd.underlying32 hi hz .i64 .i64 4 4 (by omega) (by omega) (by omega) (by omega)
      rw [this, h1, h2]
      rw [show (4 : Int).toNat * 22 = 88 by decide, made_wk]
      rfl
theorem StP.first {w : World} {gW : Nat} {ws : List Int} {lo : Nat} {y0 : LT} (h : RefOk w gW ws) (hlo : lo ≤ w.heap.size) : StP (w.alloc (.cells (fl4 (fun _ => row0)).toArray 41)) w.heap.size gW lo y0 ws (fun _ => wk0) :=
  ⟨h.below ((Below.refl w.heap.size w).alloc (Nat.le_refl _) _), by rw [World.size_alloc]; omega, fun _ => row0, fun _ => none, Blk.new w _ _, fun q _ => ⟨(0, 0, 0, 0, 0), (0, 0, 0, 0, 0), 0, rfl, OwR.nil _ _, fun h => by cases h⟩, fun _ _ _ _ _ h => absurd rfl h⟩
theorem StP.kept {w w' : World} {g gW lo : Nat} {y0 : LT} {ws : List Int} {X : Nat → Wk} {A : Option Addr} (h : StP w g gW lo y0 ws X) (hK : Kept w w' g gW A) (hA : ∀ b, blkOf A = some b → lo ≤ b ∧ ∀ T cs, Blk w b T cs → T = 3) {x : Nat} {T : TypeId} {cs : Array Value} (hx : Blk w x T cs) (h1 : T ≠ 3) (h2 : T ≠ 41) (h3 : T ≠ 33) : Blk w' x T cs := by
  obtain ⟨r1, r2, M, Ao, r3, _⟩ := h
  exact (hK.block x hx.lt (by first | exact hx.ne_ r3 h2 | exact hx.ne_ r3 (Ne.symm h2)) (by first | exact hx.ne_ r1 h3 | exact hx.ne_ r1 (Ne.symm h3)) (fun e => h1 ((hA x e).2 T cs hx))).trans hx
theorem tmod8 (y : Int) : ∃ kk : Nat, kk < 8 ∧ ((y.tmod 8 = (kk : Int)) ∨ (y.tmod 8 = -(kk : Int) ∧ 0 < kk)) := by
  by_cases h : 0 ≤ y
  · exact ⟨(y % 8).toNat, by omega, .inl (by rw [Int.tmod_eq_emod_of_nonneg h]; omega)⟩
  · have e : y.tmod 8 = -((-y) % 8) := by
      rw [← Int.tmod_eq_emod_of_nonneg (by omega), Int.neg_tmod, Int.neg_neg]
    by_cases h0 : (-y) % 8 = 0
    · exact ⟨0, by omega, .inl (by rw [e, h0]; rfl)⟩
    · exact ⟨((-y) % 8).toNat, by omega, .inr ⟨by rw [e]; omega, by omega⟩⟩
def PtsIn (n N g gW gL : Nat) (s t f l p : Int) (w : World) (i : Value) (wr : World) : Prop :=
  ∃ (k : Nat) (ws : List Int) (X : Nat → Wk), i = .int .i64 (k : Int) ∧ k ≤ n ∧ StP wr g gW w.heap.size (s, t, f, l, p) ws X ∧ Inv s t f N (k : Int) ws (li4 X) ∧ Blk wr w.heap.size 23 #[.int .i64 s, .int .i64 t, .int .i64 f, .int .i64 l, .int .i64 p] ∧ Blk wr gL 28 #[.int .i64 s, .int .i64 t, .int .i64 f, .int .i64 l, .int .i64 p] ∧ Below w.heap.size w wr
set_option linter.unusedSimpArgs false in
set_option maxRecDepth 100000 in
set_option maxHeartbeats 2000000 in
theorem parts_yes (s t f l p : Int) (A : Option Addr) (n c : Nat) (w : World) (hT : Tab w) (l0 : List Int) (hr : Reads w w.heap.size 1 A n (ints .i64 l0)) (hI : ∀ y ∈ l0, I64 y) (hc : cfgOk s t f l p = true) (hn : n ≤ 400) (hsz : laySize s t f ≤ 5000) :
    Calls Tryd.prog 3 #[.agg #[.int .i64 s, .int .i64 t, .int .i64 f, .int .i64 l, .int .i64 p], .slice A n c] w fun e w' => e = .returned (.bool true) ∧ Below w.heap.size w w' := by
  have B0 := (Below.refl w.heap.size w).alloc (Nat.le_refl _) (.cells #[.int .i64 s, .int .i64 t, .int .i64 f, .int .i64 l, .int .i64 p] 23)
  have bc := Blk.new w 23 #[.int .i64 s, .int .i64 t, .int .i64 f, .int .i64 l, .int .i64 p]
  have AW := hide (fun w2 (hB : Below w.heap.size w w2) => awake15 w2 (hT.below hB))
  have HT := hide hT
  clear hT
  have hb := cfgOk_iff.1 hc
  have hs : 1 ≤ s ∧ s ≤ 1000 := by omega
  have ht : 1 ≤ t ∧ t ≤ 64 := by omega
  have hf : 4 ≤ f ∧ f ≤ 64 := by omega
  have hsp := size_pos hs ht hf
  obtain ⟨N, hN⟩ : ∃ N : Nat, laySize s t f = N := Int.eq_ofNat_of_zero_le (by omega)
  have hwr : wrg s t f l p < 0 := by have := wrg_ok (s := s) (t := t) (f := f) (l := l) (p := p); rw [hc] at this; simpa using this.symm
  have WR := hide (fun w2 => wrong_any s t f l p w2)
  have RS := hide (fun w2 => rsize_any s t f l p w2)
  rw [show rSize s t f l p = (N : Int) by unfold rSize; rw [if_pos hc]; exact hN] at RS
  have NW := hide (fun w2 => rnew10_any s t f l p N w2 hc hN)
  have NL := hide (fun w2 hb => new_yes s t f l p w2 (HT.out.below hb) hc)
  have hbl : (begL s t f).length = N := by rw [begL_len]; omega
  have IB := hide (inv_beg hs ht hf)
  rw [hbl] at IB
  generalize wrg s t f l p = wr0 at *
  have d0 : decide ((400 : Int) < (n : Int)) = false := (by rw [decide_eq_false_iff_not]; omega)
  have d1 : decide ((0 : Int) ≤ wr0) = false := (by rw [decide_eq_false_iff_not]; omega)
  have d2 : decide ((5000 : Int) < (N : Int)) = false := (by rw [decide_eq_false_iff_not]; omega)
  have HN := hide hN
  have HSB := hide hs
  have HTB := hide ht.1
  have HFB := hide hf.1
  have H2N := hide (show 2 < N by unfold laySize at hN; have := Int.mul_pos (show 0 < s + 1 by omega) (show 0 < 3 + 2 * f by omega); omega)
  have HNB := hide (fun k (h0 : 0 ≤ k) (h1 : k ≤ s) => (show nB t f k + 2 < N by have := nB_bd hs ht hf (sl := k) ⟨h0, h1⟩; omega))
  have HB := hide hb
  have HC := hide hc
  have HBL := hide hbl
  have HNN := hide hn
  clear hN hb hsp hbl hc hsz hwr hs ht hf hn
  have mc := fun i => bc.cell i
  go_enter Tryd.func3, Tryd.ntmps3
  go_wp2_with fail
  refine (WR.out _).mono ?_
  rintro e w1 ⟨rfl, hb1⟩
  clear mc
  replace bc := bc.below hb1 bc.lt
  replace B0 := B0.trans (hb1.mono B0.size)
  clear hb1
  have mc := fun i => bc.cell i
  go_wp2_with fail
  refine (RS.out _).mono ?_
  rintro e w2 ⟨rfl, hb1⟩
  clear mc
  replace bc := bc.below hb1 bc.lt
  replace B0 := B0.trans (hb1.mono B0.size)
  clear hb1
  have mc := fun i => bc.cell i
  go_wp2_with fail
  refine (NL.out _ B0).mono ?_
  rintro e w3 ⟨rfl, hb1⟩
  clear mc
  replace bc := bc.below hb1 bc.lt
  replace B0 := B0.trans (hb1.mono B0.size)
  clear hb1
  have mc := fun i => bc.cell i
  have hlt3 := bc.lt
  have hne3 : w.heap.size ≠ w3.heap.size := by omega
  go_wp2_with fail
  have bl := Blk.new w3 28 #[.int .i64 s, .int .i64 t, .int .i64 f, .int .i64 l, .int .i64 p]
  replace bc := bc.alloc (.cells #[.int .i64 s, .int .i64 t, .int .i64 f, .int .i64 l, .int .i64 p] 28)
  replace B0 := B0.alloc B0.size (.cells #[.int .i64 s, .int .i64 t, .int .i64 f, .int .i64 l, .int .i64 p] 28)
  have HL3 := hide (show w.heap.size ≤ w3.heap.size by omega)
  clear mc hlt3 hne3 WR RS d0 d1 d2
  refine (NW.out _).mono ?_
  rintro e w4 ⟨⟨gW, rfl, R, hg⟩, hb1⟩
  have HGW := hide (show w.heap.size ≤ gW by have := HL3.out; rw [World.size_alloc] at hg; omega)
  replace bc := bc.below hb1 bc.lt
  replace bl := bl.below hb1 bl.lt
  replace B0 := B0.trans (hb1.mono B0.size)
  generalize w3.heap.size = gL at *
  clear hb1 NL NW
  have hmk := make_wk
  go_wp2_with fail
  clear hmk
  have St0 := StP.first (w := w4) (y0 := (s, t, f, l, p)) R B0.size
  have OB := (.cells (fl4 (fun _ => row0)).toArray 41 : Obj)
  replace bc := bc.alloc (.cells (fl4 (fun _ => row0)).toArray 41)
  replace bl := bl.alloc (.cells (fl4 (fun _ => row0)).toArray 41)
  have HG4 := hide B0.size
  replace B0 := B0.alloc B0.size (.cells (fl4 (fun _ => row0)).toArray 41)
  clear R hg
  generalize w4.alloc (.cells (fl4 (fun _ => row0)).toArray 41) = w5 at *
  generalize w4.heap.size = g at *
  go_loopw [8] (PtsIn n N g gW gL s t f l p w) (fun i _ => n - (intOf i).toNat)
  case atStart => exact ⟨0, begL s t f, fun _ => wk0, rfl, by omega, St0, IB.out, bc, bl, B0⟩
  case round =>
    clear St0 bc bl B0
    obtain ⟨k, ws, X, rfl, hk, St, Iv, bc, bl, B0⟩ := hrel
    have mc := fun i => bc.cell i
    have ml := fun i => bl.cell i
    by_cases hlt : k < n
    · have hlti : (k : Int) < (n : Int) := by omega
      obtain ⟨a, rfl, hkl, z0⟩ := (hr.below B0).word hlt
      have hyI := hI _ (List.getElem_mem hkl)
      generalize l0[k] = y at *
      obtain ⟨kk, hkk, h8⟩ := tmod8 y
      have hw8 : IntKind.i64.wrap (kk : Int) = (kk : Int) := IntWalk.i64_in _ (by omega)
      have hw9 : IntKind.i64.wrap (-(kk : Int)) = -(kk : Int) := IntWalk.i64_in _ (by omega)
      obtain ⟨q, hq, hq4⟩ : ∃ q : Nat, (kk : Int).tdiv 2 = (q : Int) ∧ q < 4 := ⟨kk / 2, by rw [Int.tdiv_eq_ediv_of_nonneg (by omega)]; omega, by omega⟩
      obtain ⟨m2, hm2⟩ : ∃ m2 : Int, (kk : Int).tmod 2 = m2 ∧ 0 ≤ m2 ∧ m2 < 2 := ⟨(kk : Int) % 2, Int.tmod_eq_emod_of_nonneg (by omega), by omega, by omega⟩
      obtain ⟨hm2, hm3, hm4⟩ := hm2
      have hwq : IntKind.i64.wrap (q : Int) = (q : Int) := IntWalk.i64_in _ (by omega)
      have hwm : IntKind.i64.wrap m2 = m2 := IntWalk.i64_in _ (by omega)
      obtain ⟨odd, hodd⟩ : ∃ odd, (m2 == 1) = odd := ⟨_, rfl⟩
      have hqi : (q : Int) < 4 := by omega
      have hqi0 : (0 : Int) ≤ (q : Int) := by omega
      clear hm3 hm4 hyI
      rcases h8 with h8 | ⟨h8, h80⟩
      · have d3 : decide ((kk : Int) < 0) = false := by rw [decide_eq_false_iff_not]; omega
        clear hkk
        have hwk : IntKind.i64.wrap ((k : Int) + 1) = (k : Int) + 1 := IntWalk.i64_in _ (by have := HNN.out; omega)
        have HQ4 := hide hq4
        have HK := hide hlt
        have zb := St.busy hq4
        cases hbz : (X q).busy with
        | true =>
          rw [hbz] at zb
          have HBZ := hide hbz
          go_wp2_with fail
          have SF := inv4_facts HSB.out Iv hq4
          obtain ⟨f1, f2, f3⟩ := SF
          obtain ⟨f4, f5⟩ := f3 HBZ.out
          have NST := hide (fun w2 (hS : StP w2 g gW w.heap.size (s, t, f, l, p) ws X) => step_St s t f l p q N hq4 hS HC.out HBZ.out f2 f4 f5 (mDo_out64 Iv.1.w64 _ _ _ _))
          have Iv2 := hide (inv4_step HSB.out HTB.out HFB.out H2N.out HNB.out (n := (k : Int)) (by have := HNN.out; have := HK.out; omega) Iv hq4 HBZ.out)
          have HWL := hide (wWords_len (t := t) (f := f) (ws := ws) (X q))
          clear f1 f2 f3 f4 f5
          rw [Iv.1.len] at NST HWL
          refine (NST.out _ St).mono ?_
          rintro e w6 ⟨rfl, St2, A9, hK, hA9⟩
          have B2 : Below w.heap.size w w6 := ⟨hK.os.trans B0.os, hK.tape.trans B0.tape, hK.output.trans B0.output, Nat.le_trans B0.size hK.size, fun b hb => (hK.block b (by have := B0.size; omega) (by have := HG4.out; omega) (by have := HGW.out; omega) (fun e => by have := (hA9 b e).1; omega)).trans (B0.block b hb)⟩
          have bc2 := St.kept hK hA9 bc (by decide) (by decide) (by decide)
          have bl2 := St.kept hK hA9 bl (by decide) (by decide) (by decide)
          obtain ⟨F, p1, p2, p3⟩ := inv4_parted HSB.out Iv2.out
          have PT := hide (parted_any g gW s t f l p N N 4 _ F _ w6 HSB.out (by have := HB.out; omega) (by have := HB.out; omega) HN.out HWL.out St2.words Iv2.out.1.w64 p1 p2 p3 St2.lt (fun k hk => St2.own hk))
          clear mc ml zb hK hA9 p1 p2 p3 NST St bc bl B0 Iv
          have mc := fun i => bc2.cell i
          go_wp2_with fail
          refine (PT.out).mono ?_
          rintro e w7 ⟨rfl, hb7⟩
          have St3 := St2.below hb7
          have bc3 := bc2.below hb7 bc2.lt
          have bl3 := bl2.below hb7 bl2.lt
          have B3 := B2.trans (hb7.mono B2.size)
          clear hb7 mc PT bc2 bl2 B2 St2
          go_wp2_with fail
          go_roundw
          case measure => (simp [intOf] <;> (have := HK.out; omega))
          case rel => exact ⟨k + 1, _, _, by go_num, by have := HK.out; omega, St3, by have := Iv2.out; rwa [show ((k + 1 : Nat) : Int) = (k : Int) + 1 by omega], bc3, bl3, B3⟩
        | false =>
          rw [hbz] at zb
          go_wp2_with fail
          have NB := hide (fun w2 (hS : StP w2 g gW w.heap.size (s, t, f, l, p) ws X) => begin_St s t f l p q hq4 odd hS HC.out (inv4_facts HSB.out Iv hq4).1)
          clear mc ml zb
          refine wp_region_heldZ [] (fun w' => w'.cell? ⟨gL, 0, none⟩ = some (.int .i64 s) ∧ w'.cell? ⟨gL, 1, none⟩ = some (.int .i64 t) ∧ w'.cell? ⟨gL, 2, none⟩ = some (.int .i64 f) ∧ w'.cell? ⟨gL, 3, none⟩ = some (.int .i64 l) ∧ w'.cell? ⟨gL, 4, none⟩ = some (.int .i64 p)) (by kernel_rfl) (by exact ⟨bl.cell 0, bl.cell 1, bl.cell 2, bl.cell 3, bl.cell 4⟩) (fun hHeld => ?_)
          replace St := St.below (Below.refl _ _).drew
          replace bc := bc.drew
          replace bl := bl.drew
          replace B0 := B0.drew
          generalize wr.drew = wd at *
          refine' wpAnyZ_takeA (i := 0) (v := ?_) (opAt rfl) (by kernel_rfl) (by kernel_rfl) (by kernel_rfl) (by kernel_rfl) (fun _ _ _ h => h) (by assumption) (by rfl) (fun w hSw => ?_) ?_
          rotate_left
          · (try dsimp only at hSw); go_simp; (try with_reducible rfl)
          try simp only [Act.put, List.setIfInBounds_toArray, List.set_cons_zero, List.set_cons_succ]
          refine' wpAnyZ_takeA (i := 1) (v := ?_) (opAt rfl) (by kernel_rfl) (by kernel_rfl) (by kernel_rfl) (by kernel_rfl) (fun _ _ _ h => h) (by assumption) (by rfl) (fun w hSw => ?_) ?_
          rotate_left
          · (try dsimp only at hSw); go_simp; (try with_reducible rfl)
          try simp only [Act.put, List.setIfInBounds_toArray, List.set_cons_zero, List.set_cons_succ]
          refine' wpAnyZ_takeA (i := 2) (v := ?_) (opAt rfl) (by kernel_rfl) (by kernel_rfl) (by kernel_rfl) (by kernel_rfl) (fun _ _ _ h => h) (by assumption) (by rfl) (fun w hSw => ?_) ?_
          rotate_left
          · (try dsimp only at hSw); go_simp; (try with_reducible rfl)
          try simp only [Act.put, List.setIfInBounds_toArray, List.set_cons_zero, List.set_cons_succ]
          refine' wpAnyZ_takeA (i := 3) (v := ?_) (opAt rfl) (by kernel_rfl) (by kernel_rfl) (by kernel_rfl) (by kernel_rfl) (fun _ _ _ h => h) (by assumption) (by rfl) (fun w hSw => ?_) ?_
          rotate_left
          · (try dsimp only at hSw); go_simp; (try with_reducible rfl)
          try simp only [Act.put, List.setIfInBounds_toArray, List.set_cons_zero, List.set_cons_succ]
          refine' wpAnyZ_takeA (i := 4) (v := ?_) (opAt rfl) (by kernel_rfl) (by kernel_rfl) (by kernel_rfl) (by kernel_rfl) (fun _ _ _ h => h) (by assumption) (by rfl) (fun w hSw => ?_) ?_
          rotate_left
          · (try dsimp only at hSw); go_simp; (try with_reducible rfl)
          try simp only [Act.put, List.setIfInBounds_toArray, List.set_cons_zero, List.set_cons_succ]
          refine' wpAnyZ_takeA (i := 5) (v := ?_) (opAt rfl) (by kernel_rfl) (by kernel_rfl) (by kernel_rfl) (by kernel_rfl) (fun _ _ _ h => h) (by assumption) (by rfl) (fun w hSw => ?_) ?_
          rotate_left
          · (try dsimp only at hSw); go_simp; (try with_reducible rfl)
          try simp only [Act.put, List.setIfInBounds_toArray, List.set_cons_zero, List.set_cons_succ]
          refine' wpAnyZ_takeA (i := 6) (v := ?_) (opAt rfl) (by kernel_rfl) (by kernel_rfl) (by kernel_rfl) (by kernel_rfl) (fun _ _ _ h => h) (by assumption) (by rfl) (fun w hSw => ?_) ?_
          rotate_left
          · (try dsimp only at hSw); go_simp; (try with_reducible rfl)
          try simp only [Act.put, List.setIfInBounds_toArray, List.set_cons_zero, List.set_cons_succ]
          refine' wpAnyZ_takeA (i := 7) (v := ?_) (opAt rfl) (by kernel_rfl) (by kernel_rfl) (by kernel_rfl) (by kernel_rfl) (fun _ _ _ h => h) (by assumption) (by rfl) (fun w hSw => ?_) ?_
          rotate_left
          · (try dsimp only at hSw); go_simp; (try with_reducible rfl)
          try simp only [Act.put, List.setIfInBounds_toArray, List.set_cons_zero, List.set_cons_succ]
          refine wpAnyZ_ready (rs := [8]) (by kernel_rfl) (by simp) ?_
          refine AllReadyZ.cons (opAt rfl) (fun K hK => ?_) ?_
          · skip
            go_simp
            refine (NB.out _ St).mono ?_
            rintro e w8 ⟨rfl, St2, hg8⟩
            have hK8 := (Kept.refl wd g gW none).row hg8
            have hA8 : ∀ b, blkOf (none : Option Addr) = some b → w.heap.size ≤ b ∧ ∀ T cs, Blk wd b T cs → T = 3 := fun b e => by simp [blkOf] at e
            have bc8 := St.kept hK8 hA8 bc (by decide) (by decide) (by decide)
            have bl8 := St.kept hK8 hA8 bl (by decide) (by decide) (by decide)
            replace B0 := below_grown B0 hg8 HG4.out B0.size
            replace bc := bc8
            replace bl := bl8
            replace St := St2
            clear bc8 bl8 St2 hK8 hA8 hg8 NB
            try go_wp2_with fail
            refine hK.out _ _ (by exact ⟨bl.cell 0, bl.cell 1, bl.cell 2, bl.cell 3, bl.cell 4⟩) (fun hHeld => ?_)
            clear hK K
            try simp only [Act.put, List.setIfInBounds_toArray, List.set_cons_zero, List.set_cons_succ]
            refine wpAnyZ_done (by kernel_rfl) ?_ _
            have Iv1 := inv4_begin HSB.out Iv HQ4.out odd
            have HBZ := hide (show ((upd X q (wBegin odd (X q))) q).busy = true by rw [upd_same]; exact wBegin_busy _ _)
            replace Iv := Iv1
            clear Iv1
            generalize upd X q (wBegin odd (X q)) = X1 at *
            go_wp2_with fail
            have SF := inv4_facts HSB.out Iv hq4
            obtain ⟨f1, f2, f3⟩ := SF
            obtain ⟨f4, f5⟩ := f3 HBZ.out
            have NST := hide (fun w2 (hS : StP w2 g gW w.heap.size (s, t, f, l, p) ws X1) => step_St s t f l p q N hq4 hS HC.out HBZ.out f2 f4 f5 (mDo_out64 Iv.1.w64 _ _ _ _))
            have Iv2 := hide (inv4_step HSB.out HTB.out HFB.out H2N.out HNB.out (n := (k : Int)) (by have := HNN.out; have := HK.out; omega) Iv hq4 HBZ.out)
            have HWL := hide (wWords_len (t := t) (f := f) (ws := ws) (X1 q))
            clear f1 f2 f3 f4 f5
            rw [Iv.1.len] at NST HWL
            refine (NST.out _ St).mono ?_
            rintro e w6 ⟨rfl, St2, A9, hK, hA9⟩
            have B2 : Below w.heap.size w w6 := ⟨hK.os.trans B0.os, hK.tape.trans B0.tape, hK.output.trans B0.output, Nat.le_trans B0.size hK.size, fun b hb => (hK.block b (by have := B0.size; omega) (by have := HG4.out; omega) (by have := HGW.out; omega) (fun e => by have := (hA9 b e).1; omega)).trans (B0.block b hb)⟩
            have bc2 := St.kept hK hA9 bc (by decide) (by decide) (by decide)
            have bl2 := St.kept hK hA9 bl (by decide) (by decide) (by decide)
            obtain ⟨F, p1, p2, p3⟩ := inv4_parted HSB.out Iv2.out
            have PT := hide (parted_any g gW s t f l p N N 4 _ F _ w6 HSB.out (by have := HB.out; omega) (by have := HB.out; omega) HN.out HWL.out St2.words Iv2.out.1.w64 p1 p2 p3 St2.lt (fun k hk => St2.own hk))
            clear hK hA9 p1 p2 p3 NST St bc bl B0 Iv
            have mc := fun i => bc2.cell i
            go_wp2_with fail
            refine (PT.out).mono ?_
            rintro e w7 ⟨rfl, hb7⟩
            have St3 := St2.below hb7
            have bc3 := bc2.below hb7 bc2.lt
            have bl3 := bl2.below hb7 bl2.lt
            have B3 := B2.trans (hb7.mono B2.size)
            clear hb7 mc PT bc2 bl2 B2 St2
            go_wp2_with fail
            go_roundw
            case measure => (simp [intOf] <;> (have := HK.out; omega))
            case rel => exact ⟨k + 1, _, _, by go_num, by have := HK.out; omega, St3, by have := Iv2.out; rwa [show ((k + 1 : Nat) : Int) = (k : Int) + 1 by omega], bc3, bl3, B3⟩
          exact AllReadyZ.nil
      · have d3 : decide (-(kk : Int) < 0) = true := by rw [decide_eq_true_iff]; omega
        have hw10 : IntKind.i64.wrap (- -(kk : Int)) = (kk : Int) := by rw [Int.neg_neg]; exact hw8
        clear hkk
        have hwk : IntKind.i64.wrap ((k : Int) + 1) = (k : Int) + 1 := IntWalk.i64_in _ (by have := HNN.out; omega)
        have HQ4 := hide hq4
        have HK := hide hlt
        have zb := St.busy hq4
        cases hbz : (X q).busy with
        | true =>
          rw [hbz] at zb
          have HBZ := hide hbz
          go_wp2_with fail
          have SF := inv4_facts HSB.out Iv hq4
          obtain ⟨f1, f2, f3⟩ := SF
          obtain ⟨f4, f5⟩ := f3 HBZ.out
          have NST := hide (fun w2 (hS : StP w2 g gW w.heap.size (s, t, f, l, p) ws X) => step_St s t f l p q N hq4 hS HC.out HBZ.out f2 f4 f5 (mDo_out64 Iv.1.w64 _ _ _ _))
          have Iv2 := hide (inv4_step HSB.out HTB.out HFB.out H2N.out HNB.out (n := (k : Int)) (by have := HNN.out; have := HK.out; omega) Iv hq4 HBZ.out)
          have HWL := hide (wWords_len (t := t) (f := f) (ws := ws) (X q))
          clear f1 f2 f3 f4 f5
          rw [Iv.1.len] at NST HWL
          refine (NST.out _ St).mono ?_
          rintro e w6 ⟨rfl, St2, A9, hK, hA9⟩
          have B2 : Below w.heap.size w w6 := ⟨hK.os.trans B0.os, hK.tape.trans B0.tape, hK.output.trans B0.output, Nat.le_trans B0.size hK.size, fun b hb => (hK.block b (by have := B0.size; omega) (by have := HG4.out; omega) (by have := HGW.out; omega) (fun e => by have := (hA9 b e).1; omega)).trans (B0.block b hb)⟩
          have bc2 := St.kept hK hA9 bc (by decide) (by decide) (by decide)
          have bl2 := St.kept hK hA9 bl (by decide) (by decide) (by decide)
          obtain ⟨F, p1, p2, p3⟩ := inv4_parted HSB.out Iv2.out
          have PT := hide (parted_any g gW s t f l p N N 4 _ F _ w6 HSB.out (by have := HB.out; omega) (by have := HB.out; omega) HN.out HWL.out St2.words Iv2.out.1.w64 p1 p2 p3 St2.lt (fun k hk => St2.own hk))
          clear mc ml zb hK hA9 p1 p2 p3 NST St bc bl B0 Iv
          have mc := fun i => bc2.cell i
          go_wp2_with fail
          refine (PT.out).mono ?_
          rintro e w7 ⟨rfl, hb7⟩
          have St3 := St2.below hb7
          have bc3 := bc2.below hb7 bc2.lt
          have bl3 := bl2.below hb7 bl2.lt
          have B3 := B2.trans (hb7.mono B2.size)
          clear hb7 mc PT bc2 bl2 B2 St2
          go_wp2_with fail
          go_roundw
          case measure => (simp [intOf] <;> (have := HK.out; omega))
          case rel => exact ⟨k + 1, _, _, by go_num, by have := HK.out; omega, St3, by have := Iv2.out; rwa [show ((k + 1 : Nat) : Int) = (k : Int) + 1 by omega], bc3, bl3, B3⟩
        | false =>
          rw [hbz] at zb
          go_wp2_with fail
          have NB := hide (fun w2 (hS : StP w2 g gW w.heap.size (s, t, f, l, p) ws X) => begin_St s t f l p q hq4 odd hS HC.out (inv4_facts HSB.out Iv hq4).1)
          clear mc ml zb
          refine wp_region_heldZ [] (fun w' => w'.cell? ⟨gL, 0, none⟩ = some (.int .i64 s) ∧ w'.cell? ⟨gL, 1, none⟩ = some (.int .i64 t) ∧ w'.cell? ⟨gL, 2, none⟩ = some (.int .i64 f) ∧ w'.cell? ⟨gL, 3, none⟩ = some (.int .i64 l) ∧ w'.cell? ⟨gL, 4, none⟩ = some (.int .i64 p)) (by kernel_rfl) (by exact ⟨bl.cell 0, bl.cell 1, bl.cell 2, bl.cell 3, bl.cell 4⟩) (fun hHeld => ?_)
          replace St := St.below (Below.refl _ _).drew
          replace bc := bc.drew
          replace bl := bl.drew
          replace B0 := B0.drew
          generalize wr.drew = wd at *
          refine' wpAnyZ_takeA (i := 0) (v := ?_) (opAt rfl) (by kernel_rfl) (by kernel_rfl) (by kernel_rfl) (by kernel_rfl) (fun _ _ _ h => h) (by assumption) (by rfl) (fun w hSw => ?_) ?_
          rotate_left
          · (try dsimp only at hSw); go_simp; (try with_reducible rfl)
          try simp only [Act.put, List.setIfInBounds_toArray, List.set_cons_zero, List.set_cons_succ]
          refine' wpAnyZ_takeA (i := 1) (v := ?_) (opAt rfl) (by kernel_rfl) (by kernel_rfl) (by kernel_rfl) (by kernel_rfl) (fun _ _ _ h => h) (by assumption) (by rfl) (fun w hSw => ?_) ?_
          rotate_left
          · (try dsimp only at hSw); go_simp; (try with_reducible rfl)
          try simp only [Act.put, List.setIfInBounds_toArray, List.set_cons_zero, List.set_cons_succ]
          refine' wpAnyZ_takeA (i := 2) (v := ?_) (opAt rfl) (by kernel_rfl) (by kernel_rfl) (by kernel_rfl) (by kernel_rfl) (fun _ _ _ h => h) (by assumption) (by rfl) (fun w hSw => ?_) ?_
          rotate_left
          · (try dsimp only at hSw); go_simp; (try with_reducible rfl)
          try simp only [Act.put, List.setIfInBounds_toArray, List.set_cons_zero, List.set_cons_succ]
          refine' wpAnyZ_takeA (i := 3) (v := ?_) (opAt rfl) (by kernel_rfl) (by kernel_rfl) (by kernel_rfl) (by kernel_rfl) (fun _ _ _ h => h) (by assumption) (by rfl) (fun w hSw => ?_) ?_
          rotate_left
          · (try dsimp only at hSw); go_simp; (try with_reducible rfl)
          try simp only [Act.put, List.setIfInBounds_toArray, List.set_cons_zero, List.set_cons_succ]
          refine' wpAnyZ_takeA (i := 4) (v := ?_) (opAt rfl) (by kernel_rfl) (by kernel_rfl) (by kernel_rfl) (by kernel_rfl) (fun _ _ _ h => h) (by assumption) (by rfl) (fun w hSw => ?_) ?_
          rotate_left
          · (try dsimp only at hSw); go_simp; (try with_reducible rfl)
          try simp only [Act.put, List.setIfInBounds_toArray, List.set_cons_zero, List.set_cons_succ]
          refine' wpAnyZ_takeA (i := 5) (v := ?_) (opAt rfl) (by kernel_rfl) (by kernel_rfl) (by kernel_rfl) (by kernel_rfl) (fun _ _ _ h => h) (by assumption) (by rfl) (fun w hSw => ?_) ?_
          rotate_left
          · (try dsimp only at hSw); go_simp; (try with_reducible rfl)
          try simp only [Act.put, List.setIfInBounds_toArray, List.set_cons_zero, List.set_cons_succ]
          refine' wpAnyZ_takeA (i := 6) (v := ?_) (opAt rfl) (by kernel_rfl) (by kernel_rfl) (by kernel_rfl) (by kernel_rfl) (fun _ _ _ h => h) (by assumption) (by rfl) (fun w hSw => ?_) ?_
          rotate_left
          · (try dsimp only at hSw); go_simp; (try with_reducible rfl)
          try simp only [Act.put, List.setIfInBounds_toArray, List.set_cons_zero, List.set_cons_succ]
          refine' wpAnyZ_takeA (i := 7) (v := ?_) (opAt rfl) (by kernel_rfl) (by kernel_rfl) (by kernel_rfl) (by kernel_rfl) (fun _ _ _ h => h) (by assumption) (by rfl) (fun w hSw => ?_) ?_
          rotate_left
          · (try dsimp only at hSw); go_simp; (try with_reducible rfl)
          try simp only [Act.put, List.setIfInBounds_toArray, List.set_cons_zero, List.set_cons_succ]
          refine wpAnyZ_ready (rs := [8]) (by kernel_rfl) (by simp) ?_
          refine AllReadyZ.cons (opAt rfl) (fun K hK => ?_) ?_
          · skip
            go_simp
            refine (NB.out _ St).mono ?_
            rintro e w8 ⟨rfl, St2, hg8⟩
            have hK8 := (Kept.refl wd g gW none).row hg8
            have hA8 : ∀ b, blkOf (none : Option Addr) = some b → w.heap.size ≤ b ∧ ∀ T cs, Blk wd b T cs → T = 3 := fun b e => by simp [blkOf] at e
            have bc8 := St.kept hK8 hA8 bc (by decide) (by decide) (by decide)
            have bl8 := St.kept hK8 hA8 bl (by decide) (by decide) (by decide)
            replace B0 := below_grown B0 hg8 HG4.out B0.size
            replace bc := bc8
            replace bl := bl8
            replace St := St2
            clear bc8 bl8 St2 hK8 hA8 hg8 NB
            try go_wp2_with fail
            refine hK.out _ _ (by exact ⟨bl.cell 0, bl.cell 1, bl.cell 2, bl.cell 3, bl.cell 4⟩) (fun hHeld => ?_)
            clear hK K
            try simp only [Act.put, List.setIfInBounds_toArray, List.set_cons_zero, List.set_cons_succ]
            refine wpAnyZ_done (by kernel_rfl) ?_ _
            have Iv1 := inv4_begin HSB.out Iv HQ4.out odd
            have HBZ := hide (show ((upd X q (wBegin odd (X q))) q).busy = true by rw [upd_same]; exact wBegin_busy _ _)
            replace Iv := Iv1
            clear Iv1
            generalize upd X q (wBegin odd (X q)) = X1 at *
            go_wp2_with fail
            have SF := inv4_facts HSB.out Iv hq4
            obtain ⟨f1, f2, f3⟩ := SF
            obtain ⟨f4, f5⟩ := f3 HBZ.out
            have NST := hide (fun w2 (hS : StP w2 g gW w.heap.size (s, t, f, l, p) ws X1) => step_St s t f l p q N hq4 hS HC.out HBZ.out f2 f4 f5 (mDo_out64 Iv.1.w64 _ _ _ _))
            have Iv2 := hide (inv4_step HSB.out HTB.out HFB.out H2N.out HNB.out (n := (k : Int)) (by have := HNN.out; have := HK.out; omega) Iv hq4 HBZ.out)
            have HWL := hide (wWords_len (t := t) (f := f) (ws := ws) (X1 q))
            clear f1 f2 f3 f4 f5
            rw [Iv.1.len] at NST HWL
            refine (NST.out _ St).mono ?_
            rintro e w6 ⟨rfl, St2, A9, hK, hA9⟩
            have B2 : Below w.heap.size w w6 := ⟨hK.os.trans B0.os, hK.tape.trans B0.tape, hK.output.trans B0.output, Nat.le_trans B0.size hK.size, fun b hb => (hK.block b (by have := B0.size; omega) (by have := HG4.out; omega) (by have := HGW.out; omega) (fun e => by have := (hA9 b e).1; omega)).trans (B0.block b hb)⟩
            have bc2 := St.kept hK hA9 bc (by decide) (by decide) (by decide)
            have bl2 := St.kept hK hA9 bl (by decide) (by decide) (by decide)
            obtain ⟨F, p1, p2, p3⟩ := inv4_parted HSB.out Iv2.out
            have PT := hide (parted_any g gW s t f l p N N 4 _ F _ w6 HSB.out (by have := HB.out; omega) (by have := HB.out; omega) HN.out HWL.out St2.words Iv2.out.1.w64 p1 p2 p3 St2.lt (fun k hk => St2.own hk))
            clear hK hA9 p1 p2 p3 NST St bc bl B0 Iv
            have mc := fun i => bc2.cell i
            go_wp2_with fail
            refine (PT.out).mono ?_
            rintro e w7 ⟨rfl, hb7⟩
            have St3 := St2.below hb7
            have bc3 := bc2.below hb7 bc2.lt
            have bl3 := bl2.below hb7 bl2.lt
            have B3 := B2.trans (hb7.mono B2.size)
            clear hb7 mc PT bc2 bl2 B2 St2
            go_wp2_with fail
            go_roundw
            case measure => (simp [intOf] <;> (have := HK.out; omega))
            case rel => exact ⟨k + 1, _, _, by go_num, by have := HK.out; omega, St3, by have := Iv2.out; rwa [show ((k + 1 : Nat) : Int) = (k : Int) + 1 by omega], bc3, bl3, B3⟩
          exact AllReadyZ.nil
    · obtain rfl : k = n := by omega
      have hlti : ¬ ((k : Int) < (k : Int)) := by omega
      clear Iv
      go_wp2_with fail
      refine (AW.out _ B0).mono ?_
      rintro e wz ⟨rfl, hb1⟩
      go_wp2_with fail
      go_ret
      exact ⟨rfl, B0.trans (hb1.mono B0.size)⟩
theorem StackParts_calls (s t f l p : Int) (A : Option Addr) (n c : Nat) (l0 : List Int) (w : World) (hT : Tab w) (hr : Reads w w.heap.size 1 A n (ints .i64 l0)) (hI : ∀ y ∈ l0, I64 y) :
    Calls Tryd.prog 3 #[.agg #[.int .i64 s, .int .i64 t, .int .i64 f, .int .i64 l, .int .i64 p], .slice A n c] w fun e w' => e = .returned (.bool true) ∧ Below w.heap.size w w' := by
  by_cases h1 : (400 : Int) < n
  · exact parts_big s t f l p A n c w hT h1
  cases hc : cfgOk s t f l p with
  | false =>
    exact parts_wrong s t f l p A n c w hT h1 (by have := wrg_ok (s := s) (t := t) (f := f) (l := l) (p := p); rw [hc] at this; simpa using this.symm)
  | true =>
    by_cases h2 : (5000 : Int) < laySize s t f
    · exact parts_size s t f l p A n c w hT hc h1 h2
    · exact parts_yes s t f l p A n c w hT l0 hr hI hc (by omega) (by omega)
end Go.Proofs.YteiidfklepjpmaaDoor

/-
  Arguments opened: a slice, of whatever element type, reads as a list of rows of cells; words, pairs of words.
-/
namespace Go.Proofs.YteiidfklepjpmaaDoor
open Go.ChangeShapes Go.WideShapes Go.ChangeAt Go.RowKit Go.Deep

section
variable {H : Type} {enc : TypeId × Value → H} {P : Program} {w : World} {base : Nat} {spare : Nat → Bool} {held : Bool}

theorem flatten_get {s : Nat} : ∀ {rows : List (List Value)}, (∀ r ∈ rows, r.length = s) → ∀ (i j : Nat), j < s → (h : i < rows.length) → rows.flatten[i * s + j]? = (rows[i])[j]?
  | [], _, _, _, _, h => by simp at h
  | r :: rows, hr, i, j, hj, h => by
    have h0 : r.length = s := hr r (by simp)
    cases i with
    | zero => simp [List.getElem?_append_left (show j < r.length by omega)]
    | succ i =>
      have e : (i + 1) * s + j = i * s + j + s := by rw [Nat.add_mul]; omega
      rw [List.flatten_cons, List.getElem?_append_right (by omega), h0, e, Nat.add_sub_cancel]
      exact flatten_get (fun x hx => hr x (by simp [hx])) i j hj (by simpa using h)

theorem flatten_len {s : Nat} : ∀ {rows : List (List Value)}, (∀ r ∈ rows, r.length = s) → rows.flatten.length = rows.length * s
  | [], _ => by simp
  | r :: rows, hr => by
    rw [List.flatten_cons, List.length_append, hr r (by simp), flatten_len (fun x hx => hr x (by simp [hx]))]
    simp only [List.length_cons, Nat.add_mul]
    omega

/-- A reading by the rows: row i of s cells stands at 'a.add (i * s)'. -/
theorem reads_of_rows {B s n : Nat} {a : Addr} {rows : List (List Value)} (hb : 0 < n → a.block < B) (hl : rows.length = n) (hs : ∀ r ∈ rows, r.length = s)
    (hc : ∀ i (h : i < n), ∀ j, j < s → w.cell? ((a.add (i * s)).add j) = (rows[i]'(by omega))[j]?) : Reads w B s (some a) n rows.flatten := by
  refine ⟨by rw [flatten_len hs, hl], fun hn => ⟨a, rfl, hb hn, fun j u hu => ?_⟩⟩
  have hlt : j < n * s := by
    have h0 := (List.getElem?_eq_some_iff.1 hu).1
    rw [flatten_len hs, hl] at h0
    exact h0
  have hs0 : 0 < s := by
    rcases Nat.eq_zero_or_pos s with h | h
    · subst h; simp at hlt
    · exact h
  have hi : j / s < n := by rw [Nat.div_lt_iff_lt_mul hs0]; exact hlt
  have hm : j % s < s := Nat.mod_lt _ hs0
  have e : j / s * s + j % s = j := by rw [Nat.mul_comm]; exact Nat.div_add_mod j s
  have h1 := hc (j / s) hi (j % s) hm
  rw [add_of_add, e] at h1
  rw [h1, ← flatten_get hs (j / s) (j % s) hm (by omega), e]
  exact hu

/-- A slice argument: its rows. 'E': what the element's reading says of its cells. -/
theorem open_rows {t e : TypeId} {s B b0 : Nat} {v : Value} {d : DataW H} {ps : List MemPlace} (ht : P.underlying t = some (.slice e)) (hs : P.cellsOf e = s) (hs0 : 0 < s)
    (hv : Value.okWide P w .any b0 t v) (h : DataW.Trod enc P w base spare held t v d ps) (hlt : ∀ p ∈ ps, p.block < B) (hsp : ∀ a, spare a = true)
    (E : List Value → Prop) (hE : ∀ n cs' y, DataW.trod enc P w base spare held n e cs' = some y → (∀ p ∈ y.2, p.block < B) → E cs') :
    ∃ (A : Option Addr) (len cap : Nat) (rows : List (List Value)), v = .slice A len cap ∧ len ≤ cap ∧ cap ≤ maxLen ∧ rows.length = len ∧ Reads w B s A len rows.flatten ∧ ∀ r ∈ rows, r.length = s ∧ E r := by
  obtain ⟨A, len, cap, rfl⟩ := okWide_slice ht hv
  obtain ⟨fuel, hf⟩ := h
  rcases open_slice ht hf with ⟨hcs, _⟩ | ⟨a, len', cap', m, n, D, Pl, hcs, hba, hl, hm, hmm, hx, hi⟩
  · simp [Value.cells] at hcs
    obtain ⟨rfl, rfl, rfl⟩ := hcs
    exact ⟨none, 0, 0, [], rfl, Nat.le_refl _, Nat.zero_le _, rfl, Reads.none_, fun r hr => by cases hr⟩
  · simp [Value.cells] at hcs
    obtain ⟨rfl, rfl, rfl⟩ := hcs
    rw [hsp a.block, if_pos rfl] at hmm
    subst hmm
    simp only [Prod.mk.injEq] at hx
    rw [hs] at hx hi
    have hget : ∀ i, i < len → ∃ cs', (cs'.length = s ∧ ∀ j, j < s → w.cell? ((a.add (i * s)).add j) = cs'[j]?) ∧ E cs' := fun i h => by
      obtain ⟨cs', hc, htr⟩ := hi i (by omega)
      obtain ⟨_, h1, h2⟩ := World.cells?_some hc
      refine ⟨cs', ⟨h1, h2⟩, hE n cs' _ htr (fun p hp => hlt p ?_)⟩
      rw [hx.2, List.mem_append, List.mem_flatMap]
      exact .inr ⟨i, by simp; omega, hp⟩
    have hch : ∃ rows : List (List Value), rows.length = len ∧ ∀ i (h : i < rows.length), (rows[i].length = s ∧ ∀ j, j < s → w.cell? ((a.add (i * s)).add j) = rows[i][j]?) ∧ E rows[i] := by
      refine ⟨List.ofFn fun i : Fin len => (hget i.1 i.2).choose, by simp, fun i h => ?_⟩
      simp only [List.length_ofFn] at h
      simp only [List.getElem_ofFn]
      exact (hget i h).choose_spec
    obtain ⟨rows, hrl, hrows⟩ := hch
    have hall : ∀ r ∈ rows, r.length = s ∧ E r := fun r hr => by
      obtain ⟨i, hi, rfl⟩ := List.getElem_of_mem hr
      exact ⟨(hrows i hi).1.1, (hrows i hi).2⟩
    refine ⟨some a, len, _, rows, rfl, hl, hm, hrl, reads_of_rows (fun hn => ?_) hrl (fun r hr => (hall r hr).1) (fun i h j hj => (hrows i (by omega)).1.2 j hj), hall⟩
    refine hlt (.cell a.block (a.off + 0)) ?_
    rw [hx.2, List.mem_append]
    left
    unfold MemPlace.row
    rw [List.mem_map]
    refine ⟨0, ?_, rfl⟩
    rw [List.mem_range]
    exact Nat.mul_pos (by omega) hs0

/-- A slice of integers. -/
theorem open_words {t e : TypeId} {κ : IntKind} {B b0 : Nat} {v : Value} {d : DataW H} {ps : List MemPlace} (ht : P.underlying t = some (.slice e)) (he : P.underlying e = some (.int κ)) (hs : P.cellsOf e = 1)
    (hv : Value.okWide P w .any b0 t v) (h : DataW.Trod enc P w base spare held t v d ps) (hlt : ∀ p ∈ ps, p.block < B) (hsp : ∀ a, spare a = true) :
    ∃ A len cap l, v = .slice A len cap ∧ len ≤ cap ∧ cap ≤ maxLen ∧ l.length = len ∧ Reads w B 1 A len (ints κ l) ∧ ∀ x ∈ l, (Lit.int κ x).wf = true := by
  obtain ⟨A, len, cap, rows, hv, h1, h2, h3, h4, h5⟩ := open_rows ht hs (by omega) hv h hlt hsp (fun cs => ∃ x, cs = [.int κ x] ∧ (Lit.int κ x).wf = true) (fun n cs' y hy _ => by
    obtain ⟨x, h1, _, h3⟩ := DataW.trod_int he hy
    exact ⟨x, h1, h3⟩)
  have key : ∀ rows : List (List Value), (∀ r ∈ rows, r.length = 1 ∧ ∃ x, r = [Value.int κ x] ∧ (Lit.int κ x).wf = true) → ∃ l : List Int, l.length = rows.length ∧ ints κ l = rows.flatten ∧ ∀ x ∈ l, (Lit.int κ x).wf = true := by
    intro rows
    induction rows with
    | nil => intro _; exact ⟨[], rfl, rfl, by simp⟩
    | cons r rows ih =>
      intro h
      obtain ⟨l, e1, e2, e3⟩ := ih (fun r hr => h r (by simp [hr]))
      obtain ⟨x, rfl, hx⟩ := (h r (by simp)).2
      refine ⟨x :: l, by simp [e1], by simp [← e2, ints], fun y hy => ?_⟩
      rcases List.mem_cons.1 hy with rfl | hy
      · exact hx
      · exact e3 y hy
  obtain ⟨l, e1, e2, e3⟩ := key rows h5
  exact ⟨A, len, cap, l, hv, h1, h2, by omega, by rw [e2]; exact h4, e3⟩

/-- A slice of structs of two words. -/
theorem open_pairs {t e : TypeId} {f0 f1 : Field} {B b0 : Nat} {v : Value} {d : DataW H} {ps : List MemPlace} (ht : P.underlying t = some (.slice e)) (he : P.underlying e = some (.struct #[f0, f1]))
    (hone : oneCellFields P #[f0, f1] = true) (hf0 : P.underlying f0.type = some (.int .u64)) (hf1 : P.underlying f1.type = some (.int .u64)) (hs : P.cellsOf e = 2)
    (hv : Value.okWide P w .any b0 t v) (h : DataW.Trod enc P w base spare held t v d ps) (hlt : ∀ p ∈ ps, p.block < B) (hsp : ∀ a, spare a = true) :
    ∃ A len cap l, v = .slice A len cap ∧ len ≤ cap ∧ cap ≤ maxLen ∧ l.length = len ∧ Reads w B 2 A len (rec2 l) ∧ ∀ r ∈ l, W64 r.1 ∧ W64 r.2 := by
  obtain ⟨A, len, cap, rows, hv, h1, h2, h3, h4, h5⟩ := open_rows ht hs (by omega) hv h hlt hsp (fun cs => cs.length = 2 → ∃ x y, cs = [.int .u64 x, .int .u64 y] ∧ W64 x ∧ W64 y) (fun n cs' z hy _ hl => by
    obtain ⟨ys, n', hn', hy', hlen, hyl, hf⟩ := DataW.trod_struct he hy
    match cs', hl with
    | [a, b], _ =>
      obtain ⟨o0, k0⟩ := hone_of hone 0 f0 rfl
      obtain ⟨o1, k1⟩ := hone_of hone 1 f1 rfl
      match ys, hyl with
      | [y0, y1], _ =>
        have g0 := hf 0 f0 rfl
        have g1 := hf 1 f1 rfl
        simp [o0, o1, k0, k1] at g0 g1
        obtain ⟨x, hx, _, wx⟩ := DataW.trod_int hf0 g0
        obtain ⟨y, hy, _, wy⟩ := DataW.trod_int hf1 g1
        simp at hx hy
        exact ⟨x, y, by rw [hx, hy], W64.of_wf wx, W64.of_wf wy⟩)
  have key : ∀ rows : List (List Value), (∀ r ∈ rows, r.length = 2 ∧ (r.length = 2 → ∃ x y, r = [Value.int .u64 x, .int .u64 y] ∧ W64 x ∧ W64 y)) → ∃ l : List (Int × Int), l.length = rows.length ∧ rec2 l = rows.flatten ∧ ∀ r ∈ l, W64 r.1 ∧ W64 r.2 := by
    intro rows
    induction rows with
    | nil => intro _; exact ⟨[], rfl, rfl, by simp⟩
    | cons r rows ih =>
      intro h
      obtain ⟨l, e1, e2, e3⟩ := ih (fun r hr => h r (by simp [hr]))
      obtain ⟨h1, h2⟩ := h r (by simp)
      obtain ⟨x, y, rfl, hx, hy⟩ := h2 h1
      refine ⟨(x, y) :: l, by simp [e1], by simp [← e2, rec2], fun z hz => ?_⟩
      rcases List.mem_cons.1 hz with rfl | hz
      · exact ⟨hx, hy⟩
      · exact e3 z hz
  obtain ⟨l, e1, e2, e3⟩ := key rows h5
  exact ⟨A, len, cap, l, hv, h1, h2, by omega, by rw [e2]; exact h4, e3⟩

/-- A struct by value, whatever its one-cell fields: its cells, each with its own reading. -/
theorem open_flat {t : TypeId} {fs : Array Field} {b0 : Nat} {v : Value} {d : DataW H} {ps : List MemPlace} (ht : P.underlying t = some (.struct fs)) (hone : oneCellFields P fs = true) (hC : P.cellsOf t = fs.size)
    (hv : Value.okWide P w .any b0 t v) (h : DataW.Trod enc P w base spare held t v d ps) :
    ∃ l : List Value, v = .agg l.toArray ∧ l.length = fs.size ∧ ∀ (j : Nat) (f : Field), fs[j]? = some f → ∃ x n y, l[j]? = some x ∧ DataW.trod enc P w base spare held n f.type [x] = some y ∧ ∀ p ∈ y.2, p ∈ ps := by
  obtain ⟨cs, rfl, hsz⟩ := okWide_struct ht hv
  obtain ⟨l⟩ := cs
  have hl : l.length = fs.size := by simpa using hsz.trans hC
  obtain ⟨fuel, hf⟩ := h
  obtain ⟨ys, n, _, hx, _, hlen, hg⟩ := DataW.trod_struct ht hf
  simp only [Prod.mk.injEq] at hx
  refine ⟨l, rfl, hl, fun j f hj => ?_⟩
  obtain ⟨ho, hk⟩ := hone_of hone j f hj
  have hjl : j < fs.size := (Array.getElem?_eq_some_iff.1 hj).1
  have h1 := hg j f hj
  rw [ho, hk] at h1
  have hone' : ((Value.agg l.toArray).cells.toList.drop j).take 1 = [l[j]'(by omega)] := by
    show (l.drop j).take 1 = _
    rw [List.drop_eq_getElem_cons (by omega)]
    rfl
  rw [hone'] at h1
  have hys : ys[j]? = some (ys[j]'(by omega)) := List.getElem?_eq_getElem (by omega)
  refine ⟨l[j]'(by omega), n, ys[j]'(by omega), List.getElem?_eq_getElem (by omega), h1.trans hys, fun p hp => ?_⟩
  rw [hx.2, List.mem_flatMap]
  exact ⟨ys[j]'(by omega), List.getElem_mem _, hp⟩

/-- A struct of five ints by value. -/
theorem open_five {t : TypeId} {κ : IntKind} {f0 f1 f2 f3 f4 : Field} {b0 : Nat} {v : Value} {d : DataW H} {ps : List MemPlace} (ht : P.underlying t = some (.struct #[f0, f1, f2, f3, f4])) (hone : oneCellFields P #[f0, f1, f2, f3, f4] = true) (hC : P.cellsOf t = 5)
    (k0 : P.underlying f0.type = some (.int κ)) (k1 : P.underlying f1.type = some (.int κ)) (k2 : P.underlying f2.type = some (.int κ)) (k3 : P.underlying f3.type = some (.int κ)) (k4 : P.underlying f4.type = some (.int κ))
    (hv : Value.okWide P w .any b0 t v) (h : DataW.Trod enc P w base spare held t v d ps) :
    ∃ a0 a1 a2 a3 a4, v = .agg #[.int κ a0, .int κ a1, .int κ a2, .int κ a3, .int κ a4] ∧ (Lit.int κ a0).wf = true ∧ (Lit.int κ a1).wf = true ∧ (Lit.int κ a2).wf = true ∧ (Lit.int κ a3).wf = true ∧ (Lit.int κ a4).wf = true := by
  obtain ⟨l, rfl, hl, hf⟩ := open_flat ht hone hC hv h
  match l, hl with
  | [x0, x1, x2, x3, x4], _ =>
    obtain ⟨y0, n0, z0, e0, g0, _⟩ := hf 0 f0 rfl
    obtain ⟨y1, n1, z1, e1, g1, _⟩ := hf 1 f1 rfl
    obtain ⟨y2, n2, z2, e2, g2, _⟩ := hf 2 f2 rfl
    obtain ⟨y3, n3, z3, e3, g3, _⟩ := hf 3 f3 rfl
    obtain ⟨y4, n4, z4, e4, g4, _⟩ := hf 4 f4 rfl
    obtain ⟨a0, h0, _, w0⟩ := DataW.trod_int k0 g0
    obtain ⟨a1, h1, _, w1⟩ := DataW.trod_int k1 g1
    obtain ⟨a2, h2, _, w2⟩ := DataW.trod_int k2 g2
    obtain ⟨a3, h3, _, w3⟩ := DataW.trod_int k3 g3
    obtain ⟨a4, h4, _, w4⟩ := DataW.trod_int k4 g4
    simp at e0 e1 e2 e3 e4 h0 h1 h2 h3 h4
    exact ⟨a0, a1, a2, a3, a4, by rw [e0, e1, e2, e3, e4, h0, h1, h2, h3, h4], w0, w1, w2, w3, w4⟩
end
end Go.Proofs.YteiidfklepjpmaaDoor

