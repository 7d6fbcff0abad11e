/-
  The Go function HwordTurns.
-/
import Derived.Test.YtimhpcenfofidaaHwt
import Derived.RangeFuncNested
namespace Go.Proofs.Ytimhpcenfofidaa
open Go.RowKit Go.Shelf
attribute [local go_sem] Oper.semAt_some

theorem tAll_tag (x : Int) (l : List Int) (hx : W64 x) : ∀ k : Nat, tAll x l k / 65536 = (x / 65536 + k) % 281474976710656
  | 0 => by
    obtain ⟨h1, h2⟩ := hx
    show x / 65536 = _
    omega
  | k + 1 => by
    have ih := tAll_tag x l hx k
    show hturn (tAll x l k) (l.getD k 0) / 65536 = _
    have b := hslot_bound (l.getD k 0)
    unfold hturn hmake
    generalize hslot (l.getD k 0) = s at *
    generalize tAll x l k = y at *
    omega
theorem tAll_ne (x : Int) (l : List Int) (hx : W64 x) {i j : Nat} (h : i < j) (hj : j ≤ 100) : tAll x l i ≠ tAll x l j := by
  intro e
  have h1 := tAll_tag x l hx i
  have h2 := tAll_tag x l hx j
  rw [e] at h1
  omega
def wasL (x : Int) (l : List Int) (k : Nat) : List Int := (List.range (k + 1)).map (tAll x l)
theorem wasL_succ (x : Int) (l : List Int) (k : Nat) : wasL x l (k + 1) = wasL x l k ++ [tAll x l (k + 1)] := by simp [wasL, List.range_succ]
theorem wasL_len (x : Int) (l : List Int) (k : Nat) : (wasL x l k).length = k + 1 := by simp [wasL]
theorem wasL_at (x : Int) (l : List Int) {k j : Nat} (h : j < (wasL x l k).length) : (wasL x l k)[j] = tAll x l j := by simp [wasL]
theorem tList_at (x : Int) (l : List Int) {k j : Nat} (h : j < (tList x l k).length) : (tList x l k)[j] = tAll x l (j + 1) := by simp [tList]
theorem infoW : (Try.prog.info? 22).map (fun i => (i.zero, i.size, i.bytes)) = some (some (.int .u64 0), 1, 8) := by kernel_rfl
set_option maxRecDepth 100000 in
set_option maxHeartbeats 2000000 in
theorem HwordTurns_in (x0 : Int) (A : Option Addr) (m c : Nat) (zs : List Int) (w : World) (hx0 : W64 x0) (hm : m ≤ 60) (hz : ∀ y ∈ zs, I64 y) (hr : Reads w w.heap.size 1 A m (ints .i64 zs)) :
    CallsIn Fence.wide 5 Try.prog 4 #[.int .u64 x0, .slice A m c] w fun e W' => e = .returned (.bool true) ∧ Below w.heap.size w W' := by
  have hmz : ¬ (60 : Int) < (m : Int) := by omega
  have hnf : ∀ (fn : Fn) (first cap : Array Value) (w : World), (binOp .eql 34 (.func fn first cap) .nilFunc).run Try.prog w = .ok (.bool false) w := fun _ _ _ _ => rfl
  obtain ⟨i0, hi, hz0, hz1, hz2⟩ := info_parts infoW
  refine callsIn_of_wp_marks Try.func4 rfl trivial ?_ rfl
  simp only [Try.ntmps4, List.size_toArray, List.length_cons, List.length_nil, Nat.reduceAdd, Nat.reduceSub, Array.replicate_succ, Array.replicate_zero, List.push_toArray, List.append_toArray, List.nil_append, List.cons_append]
  gi_wp2
  refine ⟨trivial, ?_⟩
  refine (turns_in _ _ _ _ _ _).mono ?_
  rintro e w' ⟨rfl, rfl⟩
  gi_wp2
  obtain ⟨W5, hW5⟩ : ∃ W5, (((((w.alloc (.cells #[.slice A m c] 31)).alloc (.cells #[.bool false] 4)).alloc (.cells #[.slice none 0 0] 32)).alloc (.cells #[.int .u64 x0] 22)).alloc (.cells #[.slice A m c] 31)) = W5 := ⟨_, rfl⟩
  have bS := ((((Boxed.new w 31 (.slice A m c)).alloc (.cells #[.bool false] 4)).alloc (.cells #[.slice none 0 0] 32)).alloc (.cells #[.int .u64 x0] 22)).alloc (.cells #[.slice A m c] 31)
  have bR := (((Boxed.new (w.alloc (.cells #[.slice A m c] 31)) 4 (.bool false)).alloc (.cells #[.slice none 0 0] 32)).alloc (.cells #[.int .u64 x0] 22)).alloc (.cells #[.slice A m c] 31)
  have bG := ((Boxed.new ((w.alloc (.cells #[.slice A m c] 31)).alloc (.cells #[.bool false] 4)) 32 (.slice none 0 0)).alloc (.cells #[.int .u64 x0] 22)).alloc (.cells #[.slice A m c] 31)
  have bW := (Boxed.new (((w.alloc (.cells #[.slice A m c] 31)).alloc (.cells #[.bool false] 4)).alloc (.cells #[.slice none 0 0] 32)) 22 (.int .u64 x0)).alloc (.cells #[.slice A m c] 31)
  have bT := Boxed.new ((((w.alloc (.cells #[.slice A m c] 31)).alloc (.cells #[.bool false] 4)).alloc (.cells #[.slice none 0 0] 32)).alloc (.cells #[.int .u64 x0] 22)) 31 (.slice A m c)
  have hB : Below w.heap.size w (((((w.alloc (.cells #[.slice A m c] 31)).alloc (.cells #[.bool false] 4)).alloc (.cells #[.slice none 0 0] 32)).alloc (.cells #[.int .u64 x0] 22)).alloc (.cells #[.slice A m c] 31)) := (((((Below.refl _ w).alloc (Nat.le_refl _) _).alloc (by simp) _).alloc (by simp; omega) _).alloc (by simp; omega) _).alloc (by simp; omega) _
  rw [hW5] at bS bR bG bW bT hB ⊢
  simp only [World.size_alloc] at bS bR bG bW bT
  have hsz : W5.heap.size = w.heap.size + 1 + 1 + 1 + 1 + 1 := by rw [← hW5]; simp only [World.size_alloc]
  clear hW5
  refine wpIn_rangeFunc_ownG rfl (by omega) (gf := 18) (lb := #[.pointer (some ⟨w.heap.size + 1 + 1 + 1, 0, none⟩), .pointer (some ⟨w.heap.size + 1 + 1 + 1 + 1, 0, none⟩)]) rfl trivial (enters_of Try.func18 (by kernel_rfl) rfl)
    (turns_stops 4 (by omega) (w.heap.size + 1 + 1 + 1) (w.heap.size + 1 + 1 + 1 + 1) w.heap.size A m c zs x0 hx0 hm hz W5 (by omega) (by omega) (by omega) bW.cell bT.cell (hr.below hB)) belowK_t (belowK_b (by omega)) (Below.refl _ _) (fun _ => rfl)
    (fun (pre : List Int) W => (∃ v, Boxed W (w.heap.size + 1 + 1) 32 v ∧ W.ownsRow w.heap.size 22 1 v pre.length (pre.map (Value.int .u64)) ∧ True) ∧ ((Boxed W w.heap.size 31 (.slice A m c) ∧ Boxed W (w.heap.size + 1) 4 (.bool false)) ∧ Below w.heap.size w W))
    (fun _ _ _ => False)
    (OwnFrom.and (Own.from (holdsRow_own w.heap.size (w.heap.size + 1 + 1) 32 22 1 (fun pre : List Int => pre.length) (fun pre => pre.map (Value.int .u64)) (fun _ _ => True)) _) (OwnFrom.and (Own.from (fun s X Y row hs hg hrow => ⟨hs.1.kept hg (fun e' => by obtain ⟨o, ho, hc⟩ := hrow _ e'.symm; rw [show X.heap[w.heap.size]? = _ from hs.1] at ho; cases ho; cases hc), hs.2.kept hg (fun e' => by obtain ⟨o, ho, hc⟩ := hrow _ e'.symm; rw [show X.heap[w.heap.size + 1]? = _ from hs.2] at ho; cases ho; cases hc)⟩) _) (ownFrom_below (Nat.le_refl _) (by omega))))
    (fun _ _ _ _ _ hs _ _ => hs)
    ⟨⟨_, bG, World.ownsRow_nil _ _ _ _, trivial⟩, ⟨bS, bR⟩, hB⟩
    (fun (x : Int) => { tmps := #[.int .u64 x0, .slice A m c, undef, .pointer (some ⟨w.heap.size, 0, none⟩), .pointer (some ⟨w.heap.size + 1, 0, none⟩), .pointer (some ⟨w.heap.size + 1 + 1, 0, none⟩), .func (.func 18) #[] #[.pointer (some ⟨w.heap.size + 1 + 1 + 1, 0, none⟩), .pointer (some ⟨w.heap.size + 1 + 1 + 1 + 1, 0, none⟩)], .int .u64 x, undef, undef, undef, undef, .slice A m c, .int .i64 (m : Int), .bool false, undef, .int .u64 x0, .slice A m c, .func (.func 18) #[] #[.pointer (some ⟨w.heap.size + 1 + 1 + 1, 0, none⟩), .pointer (some ⟨w.heap.size + 1 + 1 + 1 + 1, 0, none⟩)], .func (.func 18) #[] #[.pointer (some ⟨w.heap.size + 1 + 1 + 1, 0, none⟩), .pointer (some ⟨w.heap.size + 1 + 1 + 1 + 1, 0, none⟩)], .bool false, .func (.func 18) #[] #[.pointer (some ⟨w.heap.size + 1 + 1 + 1, 0, none⟩), .pointer (some ⟨w.heap.size + 1 + 1 + 1 + 1, 0, none⟩)], .int .u64 x, undef, undef, undef, undef, undef, undef, undef, undef, undef, undef, undef, undef, undef, undef, undef, undef, undef, undef, undef, undef, undef, undef, undef, undef, undef, undef, undef, undef, undef, undef, undef, undef, undef, undef, undef, undef, undef, undef, undef, undef, undef, undef, undef, undef, undef, undef, undef, undef, undef, undef, undef, undef], defers := [] }) ?assign ?body ?done ?stop
  case assign =>
    intro l x W K hK
    gi_wp2
    exact hK
  case body =>
    rintro l pre x W ⟨⟨v, hv, hrow, _⟩, ⟨hS, hR⟩, hB⟩ hlt
    have hc := hv.cell
    have hcS := hS.cell
    have hml : pre.length + 1 ≤ maxLen := Nat.le_trans (show pre.length + 1 ≤ 60 by omega) (by decide)
    have hlz : ¬ (m : Int) < (pre.length : Int) + 1 := by omega
    have hlz2 : ¬ (m : Int) < ((pre.length + 1 : Nat) : Int) := by omega
    gi_wp2_with (gi_at_builtin; refine wpListIn_append_own _ rfl _ _ 32 rfl w.heap.size 22 i0 (.int .u64 0) 1 8 Try.underlying32 hi hz0 hz1 hz2 rfl (by decide) _ _ _ rfl (hrow.alloc _) ⟨W.heap.size, 0, none⟩ 1 1 [.int .u64 x] rfl rfl (cell_one_new _ _ _) (by simp [Value.oneCell']) (by omega) (by omega) (by have := hB.size; simp; omega) ?_; intro v' w1 hown' hgrow _; obtain ⟨g', cap', rfl⟩ := ownsRow_succ hown'; obtain ⟨hv1, hv2, hr2, hk2, hb2⟩ := hv.appended (by decide) hrow hB.size (by omega) hown' hgrow; have hc1 := hv1.cell; have hf1 := hv1.frozen; have hc2 := hv2.cell; have hS2 := ((hS.alloc _).kept hgrow (hS.not_row (by decide) hrow)).other (B' := w.heap.size + 1 + 1) (by omega) (.slice (some ⟨g', 0, none⟩) (pre.length + 1) cap'); have hR2 := ((hR.alloc _).kept hgrow (hR.not_row (by decide) hrow)).other (B' := w.heap.size + 1 + 1) (by omega) (.slice (some ⟨g', 0, none⟩) (pre.length + 1) cap'); have hcS2 := hS2.cell)
    exact ⟨hk2.from _, hb2, ⟨_, hv2, by rw [List.length_append, List.map_append]; exact hr2⟩, ⟨hS2, hR2⟩, hB.trans hb2⟩
  case done =>
    rintro D ys W hD rfl ⟨⟨v, hv, hrow, _⟩, ⟨hS, hR⟩, hB⟩ hK
    have hc := hv.cell
    have hcS := hS.cell
    have hcR := hR.cell
    have hfR := hR.frozen
    rw [tList_len] at hrow
    obtain ⟨G, cg, rfl, hrg⟩ := own_reads hrow
    gi_wp2
    gi_loopw [8, 9, 10] (fun xv wv i wr => ∃ (k : Nat) (Aw : Option Addr) (cw : Nat), k ≤ m ∧ i = .int .i64 k ∧ xv = .int .u64 (tAll x0 zs k) ∧ wv = .slice Aw (k + 1) cw ∧ wr.ownsRow W.heap.size 22 1 (.slice Aw (k + 1) cw) (k + 1) (ints .u64 (wasL x0 zs k)) ∧ Below W.heap.size W wr) (fun _ _ i _ => m - (intOf i).toNat)
    case atStart => exact ⟨0, some ⟨W.heap.size, 0, none⟩, 1, Nat.zero_le _, rfl, rfl, rfl, World.ownsRow_lit W #[.int .u64 x0] 1 (Nat.le_refl _) (by decide) rfl, (Below.refl _ _).alloc (Nat.le_refl _) _⟩
    case round =>
      obtain ⟨k, Aw, cw, hk, rfl, rfl, rfl, hown, hb⟩ := hrel
      have hcS2 := (hb.cell (p := ⟨w.heap.size, 0, none⟩) hS.lt).trans hcS
      have hcR2 := (hb.cell (p := ⟨w.heap.size + 1, 0, none⟩) hR.lt).trans hcR
      have hcG2 := (hb.cell (p := ⟨w.heap.size + 1 + 1, 0, none⟩) hv.lt).trans hc
      by_cases hlt : k < m
      · obtain ⟨a, rfl, hkl, z1⟩ := (hr.below (hB.trans (hb.mono hB.size))).word hlt
        have T := hide (fun w2 => rhturn_any (tAll x0 zs k) zs[k] w2 (tAll_bound hx0 k) (hz _ (List.getElem_mem hkl)))
        have hG : hturn (tAll x0 zs k) zs[k] = tAll x0 zs (k + 1) := by
          show _ = hturn _ (zs.getD k 0)
          rw [show zs.getD k 0 = zs[k] by simp [List.getD, hkl]]
        rw [hG] at T
        have NE := hide (fun (j : Nat) (h : j < k + 1) => tAll_ne x0 zs hx0 h (by omega))
        obtain ⟨Aw', cw', e1, hrw⟩ := own_reads hown
        injection e1 with e1 _ e2
        subst e1 e2
        obtain ⟨ag, rfl, hgl, zg⟩ := (hrg.below hb).word (κ := .u64) (l := tList x0 zs m) hlt
        rw [tList_at] at zg
        have HW := hide (wasL_succ x0 zs k)
        have HT := hide (fun (j : Nat) (h : j < (wasL x0 zs k).length) => wasL_at x0 zs h)
        generalize zs[k] = z at *
        generalize hv1 : tAll x0 zs (k + 1) = v1 at *
        generalize wr = wq at *
        have hkz : (k : Int) < (m : Int) := by omega
        gi_wp2
        refine ⟨trivial, ?_⟩
        refine (callsIn_wide.2 (T.out _)).mono ?_
        rintro e w2 ⟨rfl, rfl⟩
        gi_wp2
        gi_loopw [11] (fun i w3 => ∃ j : Nat, i = .int .i64 j ∧ j ≤ k + 1 ∧ w3 = wq) (fun i _ => k + 1 - (intOf i).toNat)
        case atStart => exact ⟨0, rfl, Nat.zero_le _, rfl⟩
        case round =>
          obtain ⟨j, rfl, hj, rfl⟩ := hrel
          by_cases hjl : j < k + 1
          · obtain ⟨aw, rfl, hjw, zj⟩ := hrw.word hjl
            rw [HT.out j hjw] at zj
            have hne : (tAll x0 zs j == v1) = false := by rw [beq_eq_false_iff_ne]; exact NE.out j hjl
            have hjz : (j : Int) < ((k + 1 : Nat) : Int) := by omega
            have hj1 := hide (show j + 1 ≤ k + 1 by omega)
            have hms := hide (show k + 1 - (j + 1) < k + 1 - j by omega)
            have hwn := hide (show ((j : Int) + 1).toNat = j + 1 by omega)
            have hkc := hide (show ((j + 1 : Nat) : Int) = (j : Int) + 1 by omega)
            have hwk : IntKind.i64.wrap ((j : Int) + 1) = (j : Int) + 1 := IntWalk.i64_in _ (by omega)
            have hwk2 : wrap64 ((j : Int) + 1) = (j : Int) + 1 := IntWalk.wrap64_in _ (by omega)
            generalize tAll x0 zs j = vj at *
            clear T NE HW HT hrw zg hG hown hrg hr hz hrow hv hK hS hR hB hb bS bR bG bW bT hsz hD hlt hgl hkl hj hjl hjw hkz hk
            gi_wp2
            go_roundw
            case rel => exact ⟨j + 1, by rw [hkc.out], hj1.out, by first | rfl | trivial⟩
            case measure =>
              simp only [intOf, hwn.out, Int.toNat_natCast]
              exact hms.out
          · obtain rfl : j = k + 1 := by omega
            have hml1 : k + 1 + 1 ≤ maxLen := Nat.le_trans (show k + 1 + 1 ≤ 100 by omega) (by decide)
            have hml2 : (k + 1 + 1) * 8 ≤ 140737488355328 := by omega
            have hszq := hb.size
            have hk1 := hide (show k + 1 ≤ m by omega)
            have hms := hide (show m - (k + 1) < m - k by omega)
            have hwn := hide (show ((k : Int) + 1).toNat = k + 1 by omega)
            have hkc := hide (show ((k + 1 : Nat) : Int) = (k : Int) + 1 by omega)
            have hwk : IntKind.i64.wrap ((k : Int) + 1) = (k : Int) + 1 := IntWalk.i64_in _ (by omega)
            have hwk2 : wrap64 ((k : Int) + 1) = (k : Int) + 1 := IntWalk.wrap64_in _ (by omega)
            have HRG := hide hrg
            have HB := hide hb
            have HLT := hide hlt
            have HV := hide hv
            have HV1 := hide hv1
            have HCG := hide hc
            clear T NE HT hrw zg hG hrg hr hz hrow hK hS hR hB hb bS bR bG bW bT hsz hD hlt hgl hkl hj hjl hk hcR2 hcR hfR hcG2 hcS2 hc hv z1 hv1
            gi_wp2_with (gi_at_builtin; refine wpListIn_append_own _ rfl _ _ 32 rfl W.heap.size 22 i0 (.int .u64 0) 1 8 Try.underlying32 hi hz0 hz1 hz2 rfl (by decide) _ _ _ rfl (hown.alloc _) ⟨wr.heap.size, 0, none⟩ 1 1 [.int .u64 v1] rfl rfl (cell_one_new _ _ _) (by simp [Value.oneCell']) hml1 hml2 (by simp; omega) ?_; intro v' w1 hown' hgrow _; obtain ⟨g', cap', rfl⟩ := ownsRow_succ hown'; have hb1 := below_appended (HB.out.alloc HB.out.size _) (hown.alloc _) hgrow (Nat.le_refl _) (by simp; omega); have hcG3 := (hb1.cell (p := ⟨w.heap.size + 1 + 1, 0, none⟩) HV.out.lt).trans HCG.out; obtain ⟨ag3, eg3, hgl3, zg3⟩ := (HRG.out.below hb1).word (κ := .u64) (l := tList x0 zs m) HLT.out; injection eg3 with eg3; subst eg3; rw [tList_at, HV1.out] at zg3; have HO := hide hown'; have HB1 := hide hb1; clear hown' hgrow hb1)
            go_roundw
            case rel => exact ⟨k + 1, _, _, hk1.out, by rw [hkc.out], by rw [HV1.out], rfl, by rw [HW.out, ints_append]; exact HO.out, HB1.out⟩
            case measure =>
              simp only [intOf, hwn.out, Int.toNat_natCast]
              exact hms.out
      · obtain rfl : k = m := by omega
        have HB := hide hb
        have HBW := hide (hB.trans (hb.mono hB.size))
        have HRX : Boxed wr (w.heap.size + 1) 4 (.bool false) := (hb.block _ hR.lt).trans hR
        have HRB := hide HRX
        have HD := hide (show D < W.heap.size from (Array.getElem?_eq_some_iff.1 hK).1)
        have HK := hide hK
        have HDW := hide (show w.heap.size ≤ D by omega)
        have hkk : ¬ (k : Int) < (k : Int) := by omega
        clear hr hz hrow hrg hv hS hR hB hb bS bR bG bW bT hc hcS hcR hfR hown hcR2 hcG2 hlt hk HRX
        gi_wp2
        refine ⟨trivial, ?_⟩
        refine (callsIn_wide.2 (awake06 _)).mono ?_
        rintro e w3 ⟨rfl, hb3⟩
        have bR3 : Boxed w3 (w.heap.size + 1) 4 (.bool false) := (hb3.block _ HRB.out.lt).trans HRB.out
        have hcR3 := bR3.cell
        have hfR3 := bR3.frozen
        have HB3 := hide (HBW.out.trans (hb3.mono HBW.out.size))
        have HK3 := hide (show w3.heap[D]? = some (.deferred (some [])) from (hb3.block D (Nat.lt_of_lt_of_le HD.out HB.out.size)).trans ((HB.out.block D HD.out).trans HK.out))
        clear hb3 bR3
        gi_wp2
        have hK' := (KeepsOthers.setCell w3 ⟨w.heap.size + 1, 0, none⟩ (.bool true)).same D _ HK3.out rfl
        refine ⟨by simp, .inl ⟨_, _, rfl, run_takeDeferred hK', ?_⟩⟩
        have hc5 := cell_kept (World.cell?_setCell_same' w3 ⟨w.heap.size + 1, 0, none⟩ (.bool true) (by rw [hcR3]; rfl)) (grownBy_putObj' _ D (.deferred none)) (fun r e => by cases e; exact ⟨_, hK', rfl⟩)
        refine ⟨.bool true, ?_, rfl, (HB3.out.setCell (p := ⟨w.heap.size + 1, 0, none⟩) (Nat.le_succ _) _).trans (belowK_b (w := w) (Nat.le_refl _) _ D _ _ HDW.out hK' rfl rfl)⟩
        simp [results, Try.results4, go_sem, hc5]
  case stop =>
    rintro D c pre W _ _ h _
    exact h.elim
end Go.Proofs.Ytimhpcenfofidaa
