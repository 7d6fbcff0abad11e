/-
  ArenaWords' function where the node fits the slot.
-/
import Derived.Test.YtegldbhabeoboaaDoorV1
namespace Go.Proofs.YtegldbhabeoboaaDoor
open Go.RowKit

theorem infoIW : (Tryd.prog.info? 3).map (fun i => (i.zero, i.size, i.bytes)) = some (some (.int .i64 0), 1, 8) := by kernel_rfl
theorem sameB_reflw (b : Bool) (ks vs : List Int) (l : Int) : sameB b ks vs l b ks vs l = true := by simp [sameB]
theorem wrK_w64 {a0 : Int} {xs : List Int} {k : Nat} (h : ∀ z ∈ xs, W64 z) : ∀ r ∈ wrK a0 xs k, W64 r.2 := by
  intro r hr
  unfold wrK at hr
  rw [List.mem_map] at hr
  obtain ⟨i, _, rfl⟩ := hr
  show W64 (xs.getD i 0)
  rw [List.getD_eq_getElem?_getD]
  by_cases hi : i < xs.length
  · rw [List.getElem?_eq_getElem hi]; exact h _ (List.getElem_mem hi)
  · rw [List.getElem?_eq_none (by omega)]; exact ⟨by decide, by decide⟩
theorem wrAll_w64 {t f k : Int} {b : Bool} {ks vs : List Int} {lk : Int} (h1 : ∀ z ∈ ks, W64 z) (h2 : ∀ z ∈ vs, W64 z) (h3 : W64 lk) (h4 : W64 (pk b vs.length)) : ∀ r ∈ wrAll t f k b ks vs lk, W64 r.2 := by
  intro r hr
  unfold wrAll at hr
  rw [List.mem_append, List.mem_append] at hr
  rcases hr with (hr | hr) | hr
  · exact wrK_w64 h1 r hr
  · exact wrK_w64 h2 r hr
  · simp only [List.mem_cons, List.not_mem_nil, or_false] at hr
    rcases hr with rfl | rfl
    · exact h3
    · exact h4
theorem pk_w64 (b : Bool) (n : Int) : W64 (pk b n) := by
  have h := pkN_bd n
  unfold pk
  split
  · exact ⟨by omega, by omega⟩
  · exact ⟨by omega, by omega⟩
theorem at_next {wa : List (Int × Int)} {n : Nat} {a x : Int} (h : wa.getD n (0, 0) = (a, x)) (hn : n < wa.length) : ints .i64 ((wa.map Prod.fst).take (n + 1)) = ints .i64 ((wa.map Prod.fst).take n) ++ [.int .i64 a] := by
  have h2 : wa[n].1 = a := by
    rw [List.getD_eq_getElem?_getD, List.getElem?_eq_getElem hn] at h
    exact congrArg Prod.fst h
  rw [List.take_add_one]
  unfold ints
  rw [List.map_append]
  congr 1
  rw [List.getElem?_map, List.getElem?_eq_getElem hn]
  simp [h2]
theorem at_two {wa : List (Int × Int)} {n : Nat} {a x a2 x2 : Int} (h : wa.getD n (0, 0) = (a, x)) (h2 : wa.getD (n + 1) (0, 0) = (a2, x2)) (hn : wa.length = n + 2) : ints .i64 ((wa.map Prod.fst).take n) ++ [.int .i64 a, .int .i64 a2] = ints .i64 (wa.map Prod.fst) := by
  have e1 := at_next h (by omega)
  have e2 := at_next h2 (by omega)
  rw [show n + 1 + 1 = (wa.map Prod.fst).length by rw [List.length_map]; omega, List.take_length, e1, List.append_assoc] at e2
  exact e2.symm
def AtI (wb : World) (atl : List Int) (n0 m : Nat) (o iv : Value) (wr : World) : Prop :=
  ∃ (j n : Nat) (A : Option Addr) (c : Nat), iv = .int .i64 j ∧ j ≤ m ∧ n = n0 + j ∧ o = .slice A n c ∧ wr.ownsRow wb.heap.size 3 1 (.slice A n c) n (ints .i64 (atl.take n)) ∧ Below wb.heap.size wb wr
def W3I (w3 : World) (g g9 : Nat) (bl : List Int) (wa : List (Int × Int)) (n : Nat) (iv : Value) (wr : World) : Prop :=
  ∃ j : Nat, iv = .int .i64 j ∧ j ≤ n ∧ RefE wr g (mWri bl wa j) ∧ RefE wr g9 bl ∧ Below w3.heap.size w3 wr
set_option maxRecDepth 100000 in
set_option maxHeartbeats 8000000 in
theorem wds_yes (s t f l p k : Int) (v : Value) (b : Bool) (ks vs : List Int) (lk : Int) (w : World) (hT : Tab w) (h : Nd w w.heap.size v b ks vs lk) (hsm : smallB ks vs = true) (hc : cfgOk s t f l p = true) (h2 : laySize s t f ≤ 5000) (hk : 0 ≤ k ∧ k ≤ s) (hfit : fitsB b ks vs f = true) (h64l : W64 lk) (h64k : ∀ z ∈ ks, W64 z) (h64v : ∀ z ∈ vs, W64 z) :
    Calls Tryd.prog 6 #[.agg #[.int .i64 s, .int .i64 t, .int .i64 f, .int .i64 l, .int .i64 p], .int .i64 k, v] w fun e w' => e = .returned (.bool true) ∧ Below w.heap.size w w' := by
  obtain ⟨i0, hi0, hz0, hs0, hb0⟩ := info_parts infoIW
  have hl80 : ks.length ≤ 80 ∧ vs.length ≤ 80 := by unfold smallB at hsm; simpa using hsm
  have hb := cfgOk_iff.1 hc
  have hs : 1 ≤ s ∧ s ≤ 1000 := by omega
  have ht : 1 ≤ t ∧ t ≤ 64 := by omega
  have hf : 4 ≤ f ∧ f ≤ 64 := by omega
  have hsp := size_pos hs ht hf
  obtain ⟨hv1, hm⟩ : (vs.length : Int) ≤ f ∧ ks.length ≤ vs.length := by
    have hfit2 := hfit
    unfold fitsB at hfit2
    simp only [Bool.and_eq_true, decide_eq_true_eq] at hfit2
    refine ⟨hfit2.1.1, ?_⟩
    have h2 := hfit2.1.2
    cases b
    · simp at h2; omega
    · simp at h2; omega
  obtain ⟨N, hN⟩ : ∃ N : Nat, laySize s t f = N := Int.eq_ofNat_of_zero_le (by omega)
  have hlen : (begL s t f).length = N := by rw [begL_len, hN]; rfl
  obtain ⟨kv, uv, rfl, ⟨A, c, rfl, g1, g2, hks⟩, ⟨A', c', rfl, g3, g4, hvs⟩⟩ := h
  have HND := hide (show Nd w w.heap.size (.agg #[.bool b, .slice A ks.length c, .slice A' vs.length c', .int .u64 lk]) b ks vs lk from ⟨_, _, rfl, ⟨A, c, rfl, g1, g2, hks⟩, ⟨A', c', rfl, g3, g4, hvs⟩⟩)
  have B0 := ((Below.refl w.heap.size w).alloc (Nat.le_refl _) (.cells #[.int .i64 s, .int .i64 t, .int .i64 f, .int .i64 l, .int .i64 p] 23)).alloc (by simp only [World.size_alloc]; omega) (.cells #[.bool b, .slice A ks.length c, .slice A' vs.length c', .int .u64 lk] 49)
  have xc := (Blk.new w 23 #[.int .i64 s, .int .i64 t, .int .i64 f, .int .i64 l, .int .i64 p]).alloc (.cells #[.bool b, .slice A ks.length c, .slice A' vs.length c', .int .u64 lk] 49)
  have xn := Blk.new (w.alloc (.cells #[.int .i64 s, .int .i64 t, .int .i64 f, .int .i64 l, .int .i64 p] 23)) 49 #[.bool b, .slice A ks.length c, .slice A' vs.length c', .int .u64 lk]
  simp only [World.size_alloc] at xn
  have AW := hide (fun w2 (h : Below w.heap.size w w2) => awake10 w2 (hT.below h))
  have SM := hide (fun w2 (h : Below w.heap.size w w2) => small_any _ b ks vs lk w2 ((HND.out.below h).more h.size))
  have SZ := hide (fun w2 => rsize_any s t f l p w2)
  clear g1 g2 g3 g4
  have mc := fun i => xc.cell i
  have mn := fun i => xn.cell i
  rw [hsm] at SM
  rw [show rSize s t f l p = N by unfold rSize; rw [if_pos hc]; exact hN] at SZ
  have LN := hide (fun w2 (h : Below w.heap.size w w2) => new_yes s t f l p w2 (hT.below h) hc)
  have WS := hide (fun w2 (h : Below w.heap.size w w2) => words_some10 s t f l p k _ b ks vs lk w2 hs ht hf hk ((HND.out.below h).more h.size) hfit)
  have WR := hide (fun w2 => wrong_any s t f l p w2)
  have hq : ¬ 0 ≤ wrg s t f l p := by
    have h := wrg_ok (s := s) (t := t) (f := f) (l := l) (p := p)
    rw [hc] at h
    have := of_decide_eq_true h.symm
    omega
  have RF := hide (fun w2 (h : Below w.heap.size w w2) => rfits_any _ b ks vs lk f w2 (by omega) (by omega) ((HND.out.below h).more h.size))
  rw [hfit] at RF
  have CK := hide (fun (i : Nat) (hi : i < ks.length) w2 => rkey_any s t f l p k i w2 hs ht hf hk (by omega))
  have CV := hide (fun (i : Nat) (hi : i < vs.length) w2 => rval_any s t f l p k i w2 hs ht hf hk (by omega))
  have CL := hide (fun w2 => rlnkB_any s t f l p k w2 hs ht hf hk)
  have CS := hide (fun w2 => rshp_any s t f l p k w2 hs ht hf hk)
  have RN := hide (fun w2 => rnew10_any s t f l p N w2 hc hN)
  have CP := hide (fun g w2 (R : RefOk w2 g (begL s t f)) => copy09_any g N N (begL s t f) w2 hlen (by omega) R)
  have PT := hide (fun g9 c9 w2 (R : RefE w2 g9 (begL s t f)) (hB : Below w.heap.size w w2) (hg : w.heap.size ≤ g9) => rput_any g9 w.heap.size s t f l p k N c9 (begL s t f) _ b ks vs lk w2 hs ht hf hk hN hlen R hB.size hg (HND.out.below hB) (by omega) (by omega))
  have AN := hide (fun w2 (hb : Below w.heap.size w w2) => anew10_yes s t f l p N w2 (hT.below hb) hc hN)
  have HWL := hide (wrAll_len t f k b ks vs lk)
  have WRI := hide (fun gm gw A9 c9 w2 (M : MemOk w2 gm gw s t f l p (begL s t f)) (hr : Reads w2 w2.heap.size 2 A9 (wrAll t f k b ks vs lk).length (recW (wrAll t f k b ks vs lk))) (hne : 0 < (wrAll t f k b ks vs lk).length → ∀ ad, A9 = some ad → ad.block ≠ gw) => write_any gm gw s t f l p A9 (wrAll t f k b ks vs lk).length c9 (begL s t f) (wrAll t f k b ks vs lk) w2 M hr hne (by rw [HWL.out]; omega))
  have TN := told_node (ws := begL s t f) (b := b) (ks := ks) (vs := vs) (lk := lk) hs ht hf hk hN hlen hfit
  have h64 : AllW64 (mWri (begL s t f) (wrAll t f k b ks vs lk) (wrAll t f k b ks vs lk).length) := mWri_w64 (begL_w64 hs.2) (wrAll_w64 h64k h64v h64l (pk_w64 b vs.length)) _
  have AD := hide (fun gm gw w2 (M : MemOk w2 gm gw s t f l p (mWri (begL s t f) (wrAll t f k b ks vs lk) (wrAll t f k b ks vs lk).length)) => by have h := anode_yes gm gw s t f l p k _ w2 hs ht hf hk M h64; rw [TN.1, TN.2.1, TN.2.2.1, TN.2.2.2] at h; exact h)
  have SAM := hide (fun v u w2 (h : Nd w2 w2.heap.size v b ks vs lk) (h' : Nd w2 w2.heap.size u b ks vs lk) => same_any v u b b ks vs ks vs lk lk w2 (by omega) (by omega) (by omega) (by omega) h h')
  rw [sameB_reflw] at SAM
  have WDS := hide (fun v u (x : List Int) (hx : x.length ≤ 1000000) w2 (h : Sl w2 w2.heap.size v x) (h' : Sl w2 w2.heap.size u x) => (by have h9 := words_any v u x x w2 hx hx h h'; rw [show decide (x = x) = true by simp] at h9; exact h9 : Calls Tryd.prog 28 #[v, u] w2 fun e w' => e = .returned (.bool true) ∧ Below w2.heap.size w2 w'))
  have AK := hide (fun j (hj : j < ks.length) => wrAll_key (t := t) (f := f) (k := k) (b := b) (vs := vs) (lk := lk) hj)
  have AV := hide (fun j (hj : j < vs.length) => wrAll_val (t := t) (f := f) (k := k) (b := b) (ks := ks) (lk := lk) hj)
  have AL := hide (wrAll_link (t := t) (f := f) (k := k) (b := b) (ks := ks) (vs := vs) (lk := lk))
  have AS := hide (wrAll_shape (t := t) (f := f) (k := k) (b := b) (ks := ks) (vs := vs) (lk := lk))
  have IN := hide (fun i => wrAll_in (b := b) (lk := lk) hs ht hf hk hN (show (ks.length : Int) ≤ f by omega) hv1 i)
  have HML := hide (show (mWri (begL s t f) (wrAll t f k b ks vs lk) (wrAll t f k b ks vs lk).length).length = N by rw [mWri_len]; exact hlen)
  generalize pk b vs.length = pw at *
  generalize wrAll t f k b ks vs lk = wa at *
  generalize nB t f k + 3 + f = av at *
  generalize nB t f k + 3 = ak at *
  generalize nB t f k + 2 = al at *
  generalize nB t f k + 1 = ash at *
  generalize begL s t f = bl at *
  generalize wrg s t f l p = q at *
  have hfk2 : ¬ k < 0 := by omega
  have hfk3 : ¬ s < k := by omega
  have hN2 : ¬ (5000 : Int) < (N : Int) := by omega
  have HLN := hide (And.intro hlen (show 0 < N ∧ N ≤ 5000 by omega))
  have H80 := hide (show ks.length ≤ 80 ∧ vs.length ≤ 80 by omega)
  clear hT hsm hc h2 hk hfit h64l h64k h64v h64 TN hl80 hb hs ht hf hsp hv1 hm hN hlen hks hvs
  go_enter Tryd.func6, Tryd.ntmps6
  go_wp2_with fail
  generalize (w.alloc (.cells #[.int .i64 s, .int .i64 t, .int .i64 f, .int .i64 l, .int .i64 p] 23)).alloc (.cells #[.bool b, .slice A ks.length c, .slice A' vs.length c', .int .u64 lk] 49) = w0 at *
  refine (SM.out _ B0).mono ?_
  rintro e w1 ⟨rfl, hb1⟩
  replace xc := xc.below hb1 xc.lt
  replace xn := xn.below hb1 xn.lt
  replace B0 := B0.trans (hb1.mono B0.size)
  clear hb1 mc mn
  have mc := fun i => xc.cell i
  have mn := fun i => xn.cell i
  go_wp2_with fail
  refine (SZ.out _).mono ?_
  rintro e w1 ⟨rfl, hb1⟩
  replace xc := xc.below hb1 xc.lt
  replace xn := xn.below hb1 xn.lt
  replace B0 := B0.trans (hb1.mono B0.size)
  clear hb1 mc mn
  have mc := fun i => xc.cell i
  have mn := fun i => xn.cell i
  go_wp2_with fail
  refine wp_region_heldZ [] (fun w' => w'.cell? ⟨w.heap.size, 0, none⟩ = some (.int .i64 s) ∧ w'.cell? ⟨w.heap.size, 1, none⟩ = some (.int .i64 t) ∧ w'.cell? ⟨w.heap.size, 2, none⟩ = some (.int .i64 f) ∧ w'.cell? ⟨w.heap.size, 3, none⟩ = some (.int .i64 l) ∧ w'.cell? ⟨w.heap.size, 4, none⟩ = some (.int .i64 p) ∧ w'.cell? ⟨w.heap.size + 1, 0, none⟩ = some (.bool b) ∧ w'.cell? ⟨w.heap.size + 1, 1, none⟩ = some (.slice A ks.length c) ∧ w'.cell? ⟨w.heap.size + 1, 2, none⟩ = some (.slice A' vs.length c') ∧ w'.cell? ⟨w.heap.size + 1, 3, none⟩ = some (.int .u64 lk)) (by kernel_rfl) (by exact ⟨xc.cell 0, xc.cell 1, xc.cell 2, xc.cell 3, xc.cell 4, xn.cell 0, xn.cell 1, xn.cell 2, xn.cell 3⟩) (fun hHeld => ?_)
  clear mc mn
  replace xc := xc.drew
  replace xn := xn.drew
  replace B0 := B0.drew
  generalize w1.drew = w1d at *
  refine' wpAnyZ_takeA (i := 0) (v := ?_) (opAt rfl) (by kernel_rfl) (by kernel_rfl) (by kernel_rfl) (by kernel_rfl) (fun _ _ _ h => h) (by assumption) (by rfl) (fun w hSw => ?_) ?_
  rotate_left
  · (try dsimp only at hSw); go_simp; (try with_reducible rfl)
  try simp only [Act.put, List.setIfInBounds_toArray, List.set_cons_zero, List.set_cons_succ]
  refine' wpAnyZ_takeA (i := 2) (v := ?_) (opAt rfl) (by kernel_rfl) (by kernel_rfl) (by kernel_rfl) (by kernel_rfl) (fun _ _ _ h => h) (by assumption) (by rfl) (fun w hSw => ?_) ?_
  rotate_left
  · (try dsimp only at hSw); go_simp; (try with_reducible rfl)
  try simp only [Act.put, List.setIfInBounds_toArray, List.set_cons_zero, List.set_cons_succ]
  refine' wpAnyZ_takeA (i := 3) (v := ?_) (opAt rfl) (by kernel_rfl) (by kernel_rfl) (by kernel_rfl) (by kernel_rfl) (fun _ _ _ h => h) (by assumption) (by rfl) (fun w hSw => ?_) ?_
  rotate_left
  · (try dsimp only at hSw); go_simp; (try with_reducible rfl)
  try simp only [Act.put, List.setIfInBounds_toArray, List.set_cons_zero, List.set_cons_succ]
  refine wpAnyZ_ready (rs := [1]) (by kernel_rfl) (by simp) ?_
  refine AllReadyZ.cons (opAt rfl) (fun K hK => ?_) ?_
  · skip
    go_simp
    refine (LN.out _ B0).mono ?_
    rintro e w2 ⟨rfl, hb1⟩
    replace xc := xc.below hb1 xc.lt
    replace xn := xn.below hb1 xn.lt
    replace B0 := B0.trans (hb1.mono B0.size)
    clear hb1
    try go_wp2_with fail
    refine hK.out _ _ (by exact ⟨xc.cell 0, xc.cell 1, xc.cell 2, xc.cell 3, xc.cell 4, xn.cell 0, xn.cell 1, xn.cell 2, xn.cell 3⟩) (fun hHeld => ?_)
    clear hK K
    try simp only [Act.put, List.setIfInBounds_toArray, List.set_cons_zero, List.set_cons_succ]
    refine wpAnyZ_ready (rs := [4]) (by kernel_rfl) (by simp) ?_
    refine AllReadyZ.cons (opAt rfl) (fun K hK => ?_) ?_
    · skip
      go_simp
      refine (WS.out _ B0).mono ?_
      rintro e w3 ⟨⟨A9, c9, rfl, ol⟩, hb1⟩
      replace xc := xc.below hb1 xc.lt
      replace xn := xn.below hb1 xn.lt
      replace B0 := B0.trans (hb1.mono B0.size)
      clear hb1
      try go_wp2_with fail
      refine hK.out _ _ (by exact ⟨xc.cell 0, xc.cell 1, xc.cell 2, xc.cell 3, xc.cell 4, xn.cell 0, xn.cell 1, xn.cell 2, xn.cell 3⟩) (fun hHeld => ?_)
      clear hK K
      try simp only [Act.put, List.setIfInBounds_toArray, List.set_cons_zero, List.set_cons_succ]
      refine' wpAnyZ_takeA (i := 5) (v := ?_) (opAt rfl) (by kernel_rfl) (by kernel_rfl) (by kernel_rfl) (by kernel_rfl) (fun _ _ _ h => h) (by assumption) (by rfl) (fun w hSw => ?_) ?_
      rotate_left
      · (try dsimp only at hSw); go_simp; (try with_reducible rfl)
      try simp only [Act.put, List.setIfInBounds_toArray, List.set_cons_zero, List.set_cons_succ]
      refine wpAnyZ_done (by kernel_rfl) ?_ _
      have mc := fun i => xc.cell i
      have mn := fun i => xn.cell i
      go_wp2_with fail
      refine (WR.out _).mono ?_
      rintro e w4 ⟨rfl, hb1⟩
      replace ol := own_below ol hb1
      replace xc := xc.below hb1 xc.lt
      replace xn := xn.below hb1 xn.lt
      replace B0 := B0.trans (hb1.mono B0.size)
      clear hb1 mc mn
      have mc := fun i => xc.cell i
      have mn := fun i => xn.cell i
      go_wp2_with fail
      refine (RF.out _ B0).mono ?_
      rintro e w5 ⟨rfl, hb1⟩
      replace ol := own_below ol hb1
      replace xc := xc.below hb1 xc.lt
      replace xn := xn.below hb1 xn.lt
      replace B0 := B0.trans (hb1.mono B0.size)
      clear hb1 mc mn
      have mc := fun i => xc.cell i
      have mn := fun i => xn.cell i
      go_wp2_with fail
      clear mc mn hq hfk2 hfk3 WS LN SM SZ WR RF
      have HXC := hide (fun (w9 : World) (h : Below w5.heap.size w5 w9) => fun i => (xc.below h xc.lt).cell i)
      have HXN := hide (fun (w9 : World) (h : Below w5.heap.size w5 w9) => fun i => (xn.below h xn.lt).cell i)
      have HOL := hide (Reads.of_own ol)
      have BB := hide B0
      have B1 := Below.refl w5.heap.size w5
      clear xc xn ol B0
      go_loopw [8, 9] (AtI w5 (wa.map Prod.fst) 0 ks.length) (fun _ i _ => ks.length - (intOf i).toNat)
      case atStart => exact ⟨0, 0, none, 0, rfl, Nat.zero_le _, rfl, rfl, by rw [List.take_zero]; exact World.ownsRow_nil _ _ _ _, B1⟩
      case round =>
        clear B1
        obtain ⟨j, n, Aj, cj, rfl, hj, hn, rfl, oa, B1⟩ := hrel
        have mc := HXC.out _ B1
        have mn := HXN.out _ B1
        by_cases hlt : j < ks.length
        · skip
          have HW := hide (at_next (wa := wa) (n := n) (a := ak + j) (x := ks.getD j 0) (by rw [hn]; rw [Nat.zero_add]; exact AK.out j hlt) (by have h1 := HWL.out; omega))
          have CKj := hide (CK.out j hlt)
          have hlt2 : (j : Int) < (ks.length : Int) := by omega
          have hj64 : (j : Int) ≤ 80 := by have := H80.out; omega
          have HPN := hide (show n ≤ 4294967296 by have := H80.out; omega)
          have HN9 := hide hn
          clear hn
          go_wp2_with fail
          refine (CKj.out _).mono ?_
          rintro e w6 ⟨rfl, hb1⟩
          replace oa := own_below oa hb1
          replace B1 := B1.trans (hb1.mono B1.size)
          clear hb1 mc mn
          have hz5 := B1.size
          go_wp2_with (at_builtin; refine wpList_append_one rfl (.tmp 62) (.tmp 67) _ rfl w5.heap.size 3 i0 _ 1 8 Tryd.underlying43 hi0 hz0 hs0 hb0 rfl (by omega) (by omega) _ _ _ rfl (oa.alloc (.cells #[.int .i64 (ak + j)] 3)) w6.heap.size #[.int .i64 (ak + j)] rfl (Blk.new _ _ _) rfl rfl HPN.out (by rw [World.size_alloc]; omega) ?_; intro A3 c3 w7 oa7 hg7 hat7; have B7 := below_appended (B1.alloc (by omega) (.cells #[.int .i64 (ak + j)] 3)) (oa.alloc (.cells #[.int .i64 (ak + j)] 3)) hg7 (by omega) (by rw [World.size_alloc]; omega))
          go_roundw
          case measure => simp [intOf]; omega
          case rel => exact ⟨j + 1, n + 1, A3, c3, by go_num, by omega, by rw [HN9.out, Nat.add_assoc], rfl, by rw [HW.out]; exact oa7, B7⟩
        · skip
          have hjk : j = ks.length := by omega
          have hlt2 : ¬ (j : Int) < (ks.length : Int) := by omega
          subst hjk
          clear hlt hj
          have HN1 := hide (show n = ks.length + 0 by omega)
          clear hn
          go_wp2_with fail
          clear mc mn hlt2
          go_loopw [8, 10] (AtI w5 (wa.map Prod.fst) ks.length vs.length) (fun _ i _ => vs.length - (intOf i).toNat)
          case atStart => exact ⟨0, n, Aj, cj, rfl, Nat.zero_le _, HN1.out, rfl, oa, B1⟩
          case round =>
            clear oa B1 HN1
            obtain ⟨j, n, Aj, cj, rfl, hj, hn, rfl, oa, B1⟩ := hrel
            have mc := HXC.out _ B1
            have mn := HXN.out _ B1
            by_cases hlt : j < vs.length
            · skip
              have HW := hide (at_next (wa := wa) (n := n) (a := av + j) (x := vs.getD j 0) (by rw [hn]; exact AV.out j hlt) (by have h1 := HWL.out; omega))
              have CKj := hide (CV.out j hlt)
              have hlt2 : (j : Int) < (vs.length : Int) := by omega
              have hj64 : (j : Int) ≤ 80 := by have := H80.out; omega
              have HPN := hide (show n ≤ 4294967296 by have := H80.out; omega)
              have HN9 := hide hn
              clear hn
              go_wp2_with fail
              refine (CKj.out _).mono ?_
              rintro e w6 ⟨rfl, hb1⟩
              replace oa := own_below oa hb1
              replace B1 := B1.trans (hb1.mono B1.size)
              clear hb1 mc mn
              have hz5 := B1.size
              go_wp2_with (at_builtin; refine wpList_append_one rfl (.tmp 76) (.tmp 81) _ rfl w5.heap.size 3 i0 _ 1 8 Tryd.underlying43 hi0 hz0 hs0 hb0 rfl (by omega) (by omega) _ _ _ rfl (oa.alloc (.cells #[.int .i64 (av + j)] 3)) w6.heap.size #[.int .i64 (av + j)] rfl (Blk.new _ _ _) rfl rfl HPN.out (by rw [World.size_alloc]; omega) ?_; intro A3 c3 w7 oa7 hg7 hat7; have B7 := below_appended (B1.alloc (by omega) (.cells #[.int .i64 (av + j)] 3)) (oa.alloc (.cells #[.int .i64 (av + j)] 3)) hg7 (by omega) (by rw [World.size_alloc]; omega))
              go_roundw
              case measure => simp [intOf]; omega
              case rel => exact ⟨j + 1, n + 1, A3, c3, by go_num, by omega, by rw [HN9.out, Nat.add_assoc], rfl, by rw [HW.out]; exact oa7, B7⟩
            · skip
              have hjk : j = vs.length := by omega
              have hlt2 : ¬ (j : Int) < (vs.length : Int) := by omega
              subst hjk
              clear hlt hj
              have HN2 := hide hn
              have HNB := hide (show n ≤ 160 by have := H80.out; omega)
              clear hn
              have HSZ := hide B1.size
              go_wp2_with fail
              clear mc mn hlt2
              refine wp_region_heldZ [] (fun w' => w'.cell? ⟨w.heap.size, 0, none⟩ = some (.int .i64 s) ∧ w'.cell? ⟨w.heap.size, 1, none⟩ = some (.int .i64 t) ∧ w'.cell? ⟨w.heap.size, 2, none⟩ = some (.int .i64 f) ∧ w'.cell? ⟨w.heap.size, 3, none⟩ = some (.int .i64 l) ∧ w'.cell? ⟨w.heap.size, 4, none⟩ = some (.int .i64 p)) (by kernel_rfl) (by exact ⟨HXC.out _ B1 0, HXC.out _ B1 1, HXC.out _ B1 2, HXC.out _ B1 3, HXC.out _ B1 4⟩) (fun hHeld => ?_)
              replace oa := (show wr.drew.ownsRow _ _ _ _ _ _ from oa)
              replace B1 := B1.drew
              replace HSZ := hide (show w5.heap.size ≤ wr.drew.heap.size from HSZ.out)
              generalize wr.drew = wd at *
              refine' wpAnyZ_takeA (i := 0) (v := ?_) (opAt rfl) (by kernel_rfl) (by kernel_rfl) (by kernel_rfl) (by kernel_rfl) (fun _ _ _ h => h) (by assumption) (by rfl) (fun w hSw => ?_) ?_
              rotate_left
              · (try dsimp only at hSw); go_simp; (try with_reducible rfl)
              try simp only [Act.put, List.setIfInBounds_toArray, List.set_cons_zero, List.set_cons_succ]
              refine' wpAnyZ_takeA (i := 1) (v := ?_) (opAt rfl) (by kernel_rfl) (by kernel_rfl) (by kernel_rfl) (by kernel_rfl) (fun _ _ _ h => h) (by assumption) (by rfl) (fun w hSw => ?_) ?_
              rotate_left
              · (try dsimp only at hSw); go_simp; (try with_reducible rfl)
              try simp only [Act.put, List.setIfInBounds_toArray, List.set_cons_zero, List.set_cons_succ]
              refine' wpAnyZ_takeA (i := 2) (v := ?_) (opAt rfl) (by kernel_rfl) (by kernel_rfl) (by kernel_rfl) (by kernel_rfl) (fun _ _ _ h => h) (by assumption) (by rfl) (fun w hSw => ?_) ?_
              rotate_left
              · (try dsimp only at hSw); go_simp; (try with_reducible rfl)
              try simp only [Act.put, List.setIfInBounds_toArray, List.set_cons_zero, List.set_cons_succ]
              refine' wpAnyZ_takeA (i := 4) (v := ?_) (opAt rfl) (by kernel_rfl) (by kernel_rfl) (by kernel_rfl) (by kernel_rfl) (fun _ _ _ h => h) (by assumption) (by rfl) (fun w hSw => ?_) ?_
              rotate_left
              · (try dsimp only at hSw); go_simp; (try with_reducible rfl)
              try simp only [Act.put, List.setIfInBounds_toArray, List.set_cons_zero, List.set_cons_succ]
              refine' wpAnyZ_takeA (i := 5) (v := ?_) (opAt rfl) (by kernel_rfl) (by kernel_rfl) (by kernel_rfl) (by kernel_rfl) (fun _ _ _ h => h) (by assumption) (by rfl) (fun w hSw => ?_) ?_
              rotate_left
              · (try dsimp only at hSw); go_simp; (try with_reducible rfl)
              try simp only [Act.put, List.setIfInBounds_toArray, List.set_cons_zero, List.set_cons_succ]
              refine wpAnyZ_ready (rs := [3]) (by kernel_rfl) (by simp) ?_
              refine AllReadyZ.cons (opAt rfl) (fun K hK => ?_) ?_
              · skip
                go_simp
                refine (CL.out _).mono ?_
                rintro e w7 ⟨rfl, hb1⟩
                replace oa := own_below oa hb1
                replace HSZ := hide (Nat.le_trans HSZ.out hb1.size)
                replace B1 := B1.trans (hb1.mono B1.size)
                clear hb1
                try go_wp2_with fail
                refine hK.out _ _ (by exact ⟨HXC.out _ B1 0, HXC.out _ B1 1, HXC.out _ B1 2, HXC.out _ B1 3, HXC.out _ B1 4⟩) (fun hHeld => ?_)
                clear hK K
                try simp only [Act.put, List.setIfInBounds_toArray, List.set_cons_zero, List.set_cons_succ]
                refine wpAnyZ_ready (rs := [6]) (by kernel_rfl) (by simp) ?_
                refine AllReadyZ.cons (opAt rfl) (fun K hK => ?_) ?_
                · skip
                  go_simp
                  refine (CS.out _).mono ?_
                  rintro e w8 ⟨rfl, hb1⟩
                  replace oa := own_below oa hb1
                  replace HSZ := hide (Nat.le_trans HSZ.out hb1.size)
                  replace B1 := B1.trans (hb1.mono B1.size)
                  clear hb1
                  try go_wp2_with fail
                  refine hK.out _ _ (by exact ⟨HXC.out _ B1 0, HXC.out _ B1 1, HXC.out _ B1 2, HXC.out _ B1 3, HXC.out _ B1 4⟩) (fun hHeld => ?_)
                  clear hK K
                  try simp only [Act.put, List.setIfInBounds_toArray, List.set_cons_zero, List.set_cons_succ]
                  refine wpAnyZ_ready (rs := [7]) (by kernel_rfl) (by simp) ?_
                  refine AllReadyZ.cons (opAt rfl) (fun K hK => ?_) ?_
                  · skip
                    go_simp
                    have hrd := Reads.new w8 [.int .i64 al, .int .i64 ash] 3 2 1 rfl
                    replace oa := oa.alloc (.cells #[.int .i64 al, .int .i64 ash] 3)
                    replace B1 := B1.alloc B1.size (.cells #[.int .i64 al, .int .i64 ash] 3)
                    replace HSZ := hide B1.size
                    generalize w8.heap.size = g8 at *
                    generalize w8.alloc (.cells #[.int .i64 al, .int .i64 ash] 3) = w10 at *
                    refine hK.out _ _ (by exact ⟨HXC.out _ B1 0, HXC.out _ B1 1, HXC.out _ B1 2, HXC.out _ B1 3, HXC.out _ B1 4⟩) (fun hHeld => ?_)
                    clear hK K
                    try simp only [Act.put, List.setIfInBounds_toArray, List.set_cons_zero, List.set_cons_succ]
                    refine wpAnyZ_ready (rs := [8]) (by kernel_rfl) (by simp) ?_
                    refine AllReadyZ.cons (opAt rfl) (fun K hK => ?_) ?_
                    · skip
                      refine step_append_any _ (by rfl) (.tmp 83) (.tmp 90) _ (by rfl) w5.heap.size 3 i0 _ 1 8 Tryd.underlying43 hi0 hz0 hs0 hb0 rfl (by decide) _ n _ (by rfl) oa (g8 + 1) (some ⟨g8, 0, none⟩) 2 2 _ (by rfl) hrd (by intro u hu; simp at hu; rcases hu with rfl | rfl <;> rfl) (by unfold maxLen; have := HNB.out; omega) (by have := HNB.out; omega) HSZ.out ?_
                      intro v11 w11 oa11 hg11 hat11
                      replace B1 := below_appended B1 oa hg11 (Nat.le_refl _) B1.size
                      clear oa hg11 hat11 hrd
                      refine hK.out _ _ (by exact ⟨HXC.out _ B1 0, HXC.out _ B1 1, HXC.out _ B1 2, HXC.out _ B1 3, HXC.out _ B1 4⟩) (fun hHeld => ?_)
                      clear hK K
                      try simp only [Act.put, List.setIfInBounds_toArray, List.set_cons_zero, List.set_cons_succ]
                      refine' wpAnyZ_takeA (i := 9) (v := ?_) (opAt rfl) (by kernel_rfl) (by kernel_rfl) (by kernel_rfl) (by kernel_rfl) (fun _ _ _ h => h) (by assumption) (by rfl) (fun w hSw => ?_) ?_
                      rotate_left
                      · (try dsimp only at hSw); go_simp; (try with_reducible rfl)
                      try simp only [Act.put, List.setIfInBounds_toArray, List.set_cons_zero, List.set_cons_succ]
                      refine wpAnyZ_done (by kernel_rfl) ?_ _
                      rw [at_two (wa := wa) (n := n) (a := al) (x := lk) (a2 := ash) (x2 := pw) (by rw [HN2.out]; exact AL.out) (by rw [HN2.out]; exact AS.out) (by rw [HWL.out, HN2.out])] at oa11
                      rw [show n + 2 = wa.length by rw [HWL.out, HN2.out]] at oa11
                      obtain ⟨Aa, ca, rfl, hra⟩ := own_reads oa11
                      have HOA := hide hra
                      clear hra oa11
                      have HB4 := hide (fun (w9 : World) (h : Below w11.heap.size w11 w9) => B1.trans (h.mono B1.size))
                      have HBW := hide (fun (w9 : World) (h : Below w11.heap.size w11 w9) => BB.out.trans ((HB4.out w9 h).mono BB.out.size))
                      have HRL := hide (fun (w9 : World) (h : Below w11.heap.size w11 w9) => HOL.out.below (HB4.out w9 h))
                      have HRS := hide (fun (hn : 0 < wa.length) (ad : Addr) (he : A9 = some ad) => (by obtain ⟨a9, h9, h8, _⟩ := HOL.out.2 hn; rw [he] at h9; injection h9 with h9; subst h9; exact Nat.lt_of_lt_of_le h8 B1.size : ad.block < w11.heap.size))
                      have B2 := Below.refl w11.heap.size w11
                      have HW11 := hide B1.size
                      have HW5 := hide (Nat.le_trans BB.out.size B1.size)
                      clear B1
                      obtain ⟨nw, hnw⟩ : ∃ nw, nw = wa.length := ⟨_, rfl⟩
                      skip
                      have mc := HXC.out _ (HB4.out _ B2)
                      have mn := HXN.out _ (HB4.out _ B2)
                      skip
                      go_wp2_with fail
                      refine (RN.out _).mono ?_
                      rintro e w12 ⟨⟨g, rfl, R, hg⟩, hb1⟩
                      replace B2 := B2.trans (hb1.mono B2.size)
                      clear hb1 mc mn
                      have hglt := Blk.lt R
                      go_wp2_with fail
                      refine (CP.out g _ R).mono ?_
                      rintro e w13 ⟨⟨v13, rfl, ov⟩, hb1⟩
                      obtain ⟨Av, cv, e13, hcv1, hcv2, _⟩ := Sl.of_own ov
                      rw [HLN.out.1] at e13 hcv1
                      subst e13
                      obtain ⟨g9, rfl, hg9, E9⟩ := RefE.of_own ov HLN.out.2.1
                      have E := (RefE.of_ref R).below hb1
                      replace B2 := B2.trans (hb1.mono B2.size)
                      have HGS := hide (show g ≠ g9 ∧ w11.heap.size ≤ g ∧ w11.heap.size ≤ g9 by have h1 := B2.size; have h2 := hb1.size; exact ⟨by omega, by omega, by omega⟩)
                      have HCV := hide (And.intro hcv1 hcv2)
                      clear R ov hb1 hglt hg hg9 hcv1 hcv2
                      go_wp2_with fail
                      go_loopw [13] (W3I w11 g g9 bl wa wa.length) (fun i _ => wa.length - (intOf i).toNat)
                      case atStart => exact ⟨0, rfl, Nat.zero_le _, E, E9, B2⟩
                      case round =>
                        clear E E9 B2
                        obtain ⟨j, rfl, hj, E, E9, B2⟩ := hrel
                        by_cases hlt : j < wa.length
                        · skip
                          obtain ⟨a, ea, hab, hjl, z1, z2⟩ := (HRL.out _ B2).wri hlt
                          obtain ⟨a2, ea2, hjl2, z3⟩ := (HOA.out.below B2).word hlt
                          subst ea ea2
                          have ZZ := hide (fun (w2 : World) (h2 : Below w11.heap.size w11 w2) => (by obtain ⟨a9, e9, _, _, q1, q2⟩ := (HRL.out _ h2).wri hlt; injection e9 with e9; subst e9; obtain ⟨a8, e8, _, q3⟩ := (HOA.out.below h2).word hlt; injection e8 with e8; subst e8; exact ⟨q1, q2, by rw [List.getElem_map] at q3; exact q3⟩ : w2.cell? (a.add (j * 2)) = some (.int .i64 wa[j].1) ∧ w2.cell? ⟨(a.add (j * 2)).block, (a.add (j * 2)).off + 1, none⟩ = some (.int .u64 wa[j].2) ∧ w2.cell? (a2.add j) = some (.int .i64 wa[j].1)))
                          clear z1 z2 z3 hab
                          have hgd : wa.getD j (0, 0) = wa[j] := by simp [List.getD, hjl]
                          have hin := IN.out j
                          rw [hgd] at hin
                          obtain ⟨pv, hpv⟩ : ∃ pv : Nat, wa[j].1 = pv := Int.eq_ofNat_of_zero_le hin.1
                          rw [hpv] at hin ZZ
                          have hpN : pv < N := by omega
                          have HW := hide (mWri_next (ws := bl) (wa := wa) (j := j) (p := pv) (a := wa[j].1) (x := wa[j].2) hgd hpv (by rw [HLN.out.1]; exact hpN))
                          clear hpv hin hgd
                          generalize wa[j].2 = x2 at *
                          have ATT := hide (fun (w2 : World) (h : RefE w2 g (mWri bl wa j)) => h.at_ (j := pv) (by rw [mWri_len, HLN.out.1]; exact hpN))
                          have HLT := hide (show pv < (mWri bl wa j).length by rw [mWri_len, HLN.out.1]; exact hpN)
                          generalize mWri bl wa j = m1 at *
                          have hlt2 : (j : Int) < (wa.length : Int) := by omega
                          have hj64 : (j : Int) ≤ 200 := by have h1 := HWL.out; have h2 := H80.out; omega
                          go_wp2_with fail
                          refine wp_region_heldZ [] (fun w' => w'.cell? (a.add (j * 2)) = some (.int .i64 pv) ∧ w'.cell? ⟨(a.add (j * 2)).block, (a.add (j * 2)).off + 1, none⟩ = some (.int .u64 x2) ∧ w'.cell? (a2.add j) = some (.int .i64 pv)) (by kernel_rfl) (by exact ZZ.out _ (by first | exact B2 | exact B2.drew)) (fun hHeld => ?_)
                          replace E := E.drew
                          replace E9 := E9.drew
                          replace B2 := B2.drew
                          generalize wr.drew = wd2 at *
                          refine' wpAnyZ_takeA (i := 0) (v := ?_) (opAt rfl) (by kernel_rfl) (by kernel_rfl) (by kernel_rfl) (by kernel_rfl) (fun _ _ _ h => h) (by assumption) (by rfl) (fun w hSw => ?_) ?_
                          rotate_left
                          · (try dsimp only at hSw); go_simp; (try with_reducible rfl)
                          try simp only [Act.put, List.setIfInBounds_toArray, List.set_cons_zero, List.set_cons_succ]
                          refine' wpAnyZ_takeA (i := 1) (v := ?_) (opAt rfl) (by kernel_rfl) (by kernel_rfl) (by kernel_rfl) (by kernel_rfl) (fun _ _ _ h => h) (by assumption) (by rfl) (fun w hSw => ?_) ?_
                          rotate_left
                          · (try dsimp only at hSw); go_simp; (try with_reducible rfl)
                          try simp only [Act.put, List.setIfInBounds_toArray, List.set_cons_zero, List.set_cons_succ]
                          refine' wpAnyZ_takeA (i := 2) (v := ?_) (opAt rfl) (by kernel_rfl) (by kernel_rfl) (by kernel_rfl) (by kernel_rfl) (fun _ _ _ h => h) (by assumption) (by rfl) (fun w hSw => ?_) ?_
                          rotate_left
                          · (try dsimp only at hSw); go_simp; (try with_reducible rfl)
                          try simp only [Act.put, List.setIfInBounds_toArray, List.set_cons_zero, List.set_cons_succ]
                          refine' wpAnyZ_takeA (i := 3) (v := ?_) (opAt rfl) (by kernel_rfl) (by kernel_rfl) (by kernel_rfl) (by kernel_rfl) (fun _ _ _ h => h) (by assumption) (by rfl) (fun w hSw => ?_) ?_
                          rotate_left
                          · (try dsimp only at hSw); go_simp; (try with_reducible rfl)
                          try simp only [Act.put, List.setIfInBounds_toArray, List.set_cons_zero, List.set_cons_succ]
                          refine' wpAnyZ_takeA (i := 4) (v := ?_) (opAt rfl) (by kernel_rfl) (by kernel_rfl) (by kernel_rfl) (by kernel_rfl) (fun _ _ _ h => h) (by assumption) (by rfl) (fun w hSw => ?_) ?_
                          rotate_left
                          · (try dsimp only at hSw); go_simp; (try with_reducible rfl)
                          try simp only [Act.put, List.setIfInBounds_toArray, List.set_cons_zero, List.set_cons_succ]
                          refine' wpAnyZ_takeA (i := 5) (v := ?_) (opAt rfl) (by kernel_rfl) (by kernel_rfl) (by kernel_rfl) (by kernel_rfl) (fun _ _ _ h => h) (by assumption) (by rfl) (fun w hSw => ?_) ?_
                          rotate_left
                          · (try dsimp only at hSw); go_simp; (try with_reducible rfl)
                          try simp only [Act.put, List.setIfInBounds_toArray, List.set_cons_zero, List.set_cons_succ]
                          refine' wpAnyZ_takeA (i := 6) (v := ?_) (opAt rfl) (by kernel_rfl) (by kernel_rfl) (by kernel_rfl) (by kernel_rfl) (fun _ _ _ h => h) (by assumption) (by rfl) (fun w hSw => ?_) ?_
                          rotate_left
                          · (try dsimp only at hSw); go_simp; (try with_reducible rfl)
                          try simp only [Act.put, List.setIfInBounds_toArray, List.set_cons_zero, List.set_cons_succ]
                          refine' wpAnyZ_takeA (i := 7) (v := ?_) (opAt rfl) (by kernel_rfl) (by kernel_rfl) (by kernel_rfl) (by kernel_rfl) (fun _ _ _ h => h) (by assumption) (by rfl) (fun w hSw => ?_) ?_
                          rotate_left
                          · (try dsimp only at hSw); go_simp; (try with_reducible rfl)
                          try simp only [Act.put, List.setIfInBounds_toArray, List.set_cons_zero, List.set_cons_succ]
                          refine' wpAnyZ_takeA (i := 8) (v := ?_) (opAt rfl) (by kernel_rfl) (by kernel_rfl) (by kernel_rfl) (by kernel_rfl) (fun _ _ _ h => h) (by assumption) (by rfl) (fun w hSw => ?_) ?_
                          rotate_left
                          · (try dsimp only at hSw); go_simp; (try with_reducible rfl)
                          try simp only [Act.put, List.setIfInBounds_toArray, List.set_cons_zero, List.set_cons_succ]
                          refine' wpAnyZ_takeA (i := 9) (v := ?_) (opAt rfl) (by kernel_rfl) (by kernel_rfl) (by kernel_rfl) (by kernel_rfl) (fun _ _ _ h => h) (by assumption) (by rfl) (fun w hSw => ?_) ?_
                          rotate_left
                          · (try dsimp only at hSw); go_simp; (try with_reducible rfl)
                          try simp only [Act.put, List.setIfInBounds_toArray, List.set_cons_zero, List.set_cons_succ]
                          refine wpAnyZ_done (by kernel_rfl) ?_ _
                          go_wp2_with fail
                          refine wp_region_heldZ [12] (fun w' => w'.cell? (a.add (j * 2)) = some (.int .i64 pv) ∧ w'.cell? ⟨(a.add (j * 2)).block, (a.add (j * 2)).off + 1, none⟩ = some (.int .u64 x2) ∧ w'.cell? (a2.add j) = some (.int .i64 pv)) (by kernel_rfl) (by exact ZZ.out _ (by first | exact B2 | exact B2.drew)) (fun hHeld => ?_)
                          replace E := E.drew
                          replace E9 := E9.drew
                          replace B2 := B2.drew
                          generalize wd2.drew = we at *
                          refine' wpAnyZ_takeA (i := 0) (v := ?_) (opAt rfl) (by kernel_rfl) (by kernel_rfl) (by kernel_rfl) (by kernel_rfl) (fun _ _ _ h => h) (by assumption) (by rfl) (fun w hSw => ?_) ?_
                          rotate_left
                          · (try dsimp only at hSw); go_simp; (try with_reducible rfl)
                          try simp only [Act.put, List.setIfInBounds_toArray, List.set_cons_zero, List.set_cons_succ]
                          refine' wpAnyZ_takeA (i := 1) (v := ?_) (opAt rfl) (by kernel_rfl) (by kernel_rfl) (by kernel_rfl) (by kernel_rfl) (fun _ _ _ h => h) (by assumption) (by rfl) (fun w hSw => ?_) ?_
                          rotate_left
                          · (try dsimp only at hSw); go_simp; (try with_reducible rfl)
                          try simp only [Act.put, List.setIfInBounds_toArray, List.set_cons_zero, List.set_cons_succ]
                          refine' wpAnyZ_takeA (i := 2) (v := ?_) (opAt rfl) (by kernel_rfl) (by kernel_rfl) (by kernel_rfl) (by kernel_rfl) (fun _ _ _ h => h) (by assumption) (by rfl) (fun w hSw => ?_) ?_
                          rotate_left
                          · (try dsimp only at hSw); go_simp; (try with_reducible rfl)
                          try simp only [Act.put, List.setIfInBounds_toArray, List.set_cons_zero, List.set_cons_succ]
                          refine' wpAnyZ_takeA (i := 3) (v := ?_) (opAt rfl) (by kernel_rfl) (by kernel_rfl) (by kernel_rfl) (by kernel_rfl) (fun _ _ _ h => h) (by assumption) (by rfl) (fun w hSw => ?_) ?_
                          rotate_left
                          · (try dsimp only at hSw); go_simp; (try with_reducible rfl)
                          try simp only [Act.put, List.setIfInBounds_toArray, List.set_cons_zero, List.set_cons_succ]
                          refine' wpAnyZ_takeA (i := 4) (v := ?_) (opAt rfl) (by kernel_rfl) (by kernel_rfl) (by kernel_rfl) (by kernel_rfl) (fun _ _ _ h => h) (by assumption) (by rfl) (fun w hSw => ?_) ?_
                          rotate_left
                          · (try dsimp only at hSw); go_simp; (try with_reducible rfl)
                          try simp only [Act.put, List.setIfInBounds_toArray, List.set_cons_zero, List.set_cons_succ]
                          refine' wpAnyZ_takeA (i := 5) (v := ?_) (opAt rfl) (by kernel_rfl) (by kernel_rfl) (by kernel_rfl) (by kernel_rfl) (fun _ _ _ h => h) (by assumption) (by rfl) (fun w hSw => ?_) ?_
                          rotate_left
                          · (try dsimp only at hSw); go_simp; (try with_reducible rfl)
                          try simp only [Act.put, List.setIfInBounds_toArray, List.set_cons_zero, List.set_cons_succ]
                          refine' wpAnyZ_takeA (i := 6) (v := ?_) (opAt rfl) (by kernel_rfl) (by kernel_rfl) (by kernel_rfl) (by kernel_rfl) (fun _ _ _ h => h) (by assumption) (by rfl) (fun w hSw => ?_) ?_
                          rotate_left
                          · (try dsimp only at hSw); go_simp; (try with_reducible rfl)
                          try simp only [Act.put, List.setIfInBounds_toArray, List.set_cons_zero, List.set_cons_succ]
                          refine' wpAnyZ_takeA (i := 7) (v := ?_) (opAt rfl) (by kernel_rfl) (by kernel_rfl) (by kernel_rfl) (by kernel_rfl) (fun _ _ _ h => h) (by assumption) (by rfl) (fun w hSw => ?_) ?_
                          rotate_left
                          · (try dsimp only at hSw); go_simp; (try with_reducible rfl)
                          try simp only [Act.put, List.setIfInBounds_toArray, List.set_cons_zero, List.set_cons_succ]
                          refine' wpAnyZ_takeA (i := 8) (v := ?_) (opAt rfl) (by kernel_rfl) (by kernel_rfl) (by kernel_rfl) (by kernel_rfl) (fun _ _ _ h => h) (by assumption) (by rfl) (fun w hSw => ?_) ?_
                          rotate_left
                          · (try dsimp only at hSw); go_simp; (try with_reducible rfl)
                          try simp only [Act.put, List.setIfInBounds_toArray, List.set_cons_zero, List.set_cons_succ]
                          refine' wpAnyZ_takeA (i := 9) (v := ?_) (opAt rfl) (by kernel_rfl) (by kernel_rfl) (by kernel_rfl) (by kernel_rfl) (fun _ _ _ h => h) (by assumption) (by rfl) (fun w hSw => ?_) ?_
                          rotate_left
                          · (try dsimp only at hSw); go_simp; (try with_reducible rfl)
                          try simp only [Act.put, List.setIfInBounds_toArray, List.set_cons_zero, List.set_cons_succ]
                          refine' wpAnyZ_takeA (i := 10) (v := ?_) (opAt rfl) (by kernel_rfl) (by kernel_rfl) (by kernel_rfl) (by kernel_rfl) (fun _ _ _ h => h) (by assumption) (by rfl) (fun w hSw => ?_) ?_
                          rotate_left
                          · (try dsimp only at hSw); go_simp; (try with_reducible rfl)
                          try simp only [Act.put, List.setIfInBounds_toArray, List.set_cons_zero, List.set_cons_succ]
                          refine' wpAnyZ_takeA (i := 11) (v := ?_) (opAt rfl) (by kernel_rfl) (by kernel_rfl) (by kernel_rfl) (by kernel_rfl) (fun _ _ _ h => h) (by assumption) (by rfl) (fun w hSw => ?_) ?_
                          rotate_left
                          · (try dsimp only at hSw); go_simp; (try with_reducible rfl)
                          try simp only [Act.put, List.setIfInBounds_toArray, List.set_cons_zero, List.set_cons_succ]
                          refine wpAnyZ_ready (rs := [12]) (by kernel_rfl) (by simp) ?_
                          refine AllReadyZ.last (opAt rfl) (by kernel_rfl) (fun K hK => ?_) ?_
                          · skip
                            have zo := fun i => E.frozen i
                            have mo := ATT.out _ E
                            go_simp
                            refine hK.out _ _ ?_
                            clear hK K
                            try simp only [Act.put, List.setIfInBounds_toArray, List.set_cons_zero, List.set_cons_succ]
                            refine wpAnyZ_done (by kernel_rfl) ?_ _
                            replace E9 := E9.far (p := ⟨g, pv, none⟩) (by have := HGS.out; show g9 ≠ g; omega) (.int .u64 x2)
                            replace E := E.set_ pv x2 HLT.out
                            replace B2 := B2.setCell (p := ⟨g, pv, none⟩) HGS.out.2.1 (.int .u64 x2)
                            generalize we.setCell ⟨g, pv, none⟩ (.int .u64 x2) = w9 at *
                            clear zo mo
                            go_wp2_with fail
                            go_roundw
                            case measure => simp [intOf]; omega
                            case rel => exact ⟨j + 1, by go_num, by omega, by rw [HW.out]; exact E, E9, B2⟩
                          exact AllReadyZ.nil
                        · skip
                          have hjk : j = wa.length := by omega
                          have hlt2 : ¬ (j : Int) < (wa.length : Int) := by omega
                          subst hjk
                          clear hlt hj
                          have mc := HXC.out _ (HB4.out _ B2)
                          have mn := HXN.out _ (HB4.out _ B2)
                          go_wp2_with fail
                          refine (PT.out g9 cv _ E9 (HBW.out _ B2) (by have h1 := HGS.out; have h2 := HW5.out; omega)).mono ?_
                          rintro e w20 ⟨⟨u20, rfl⟩, E9, hgr⟩
                          replace E := E.grown hgr (fun e => by injection e with e; exact HGS.out.1 e)
                          replace B2 := below_grown B2 hgr HGS.out.2.2 B2.size
                          clear hgr mc mn
                          have mc := HXC.out _ (HB4.out _ B2)
                          go_wp2_with fail
                          refine (AN.out _ (HBW.out _ B2)).mono ?_
                          rintro e w21 ⟨⟨gm, gw, rfl, M, hgm, hgw⟩, hb1⟩
                          have HGW := hide (show g ≠ gw ∧ g9 ≠ gw ∧ w11.heap.size ≤ gw by have h1 := E.lt; have h2 := E9.lt; have h3 := B2.size; exact ⟨by omega, by omega, by omega⟩)
                          replace E := E.below hb1
                          replace E9 := E9.below hb1
                          replace B2 := B2.trans (hb1.mono B2.size)
                          clear hb1 hgm hgw mc
                          go_wp2_with fail
                          refine (WRI.out gm gw A9 c9 _ M ((HRL.out _ B2).more (Nat.le_trans HW11.out B2.size)) (fun hn ad had e9 => by have h1 := HRS.out hn ad had; have h2 := HGW.out; omega)).mono ?_
                          rintro e w22 ⟨⟨u22, rfl⟩, M, hg4⟩
                          replace E := E.grown hg4 (fun e => by injection e with e; exact HGW.out.1 e)
                          replace E9 := E9.grown hg4 (fun e => by injection e with e; exact HGW.out.2.1 e)
                          replace B2 := below_grown B2 hg4 HGW.out.2.2 B2.size
                          clear hg4
                          go_wp2_with fail
                          refine wp_region_heldZ [] (fun w' => w'.cell? ⟨w.heap.size + 1, 0, none⟩ = some (.bool b) ∧ w'.cell? ⟨w.heap.size + 1, 1, none⟩ = some (.slice A ks.length c) ∧ w'.cell? ⟨w.heap.size + 1, 2, none⟩ = some (.slice A' vs.length c') ∧ w'.cell? ⟨w.heap.size + 1, 3, none⟩ = some (.int .u64 lk)) (by kernel_rfl) (by exact ⟨HXN.out _ (HB4.out _ B2) 0, HXN.out _ (HB4.out _ B2) 1, HXN.out _ (HB4.out _ B2) 2, HXN.out _ (HB4.out _ B2) 3⟩) (fun hHeld => ?_)
                          replace E := E.drew
                          replace E9 := E9.drew
                          replace M := M.drew
                          replace B2 := B2.drew
                          generalize w22.drew = wz at *
                          refine' wpAnyZ_takeA (i := 0) (v := ?_) (opAt rfl) (by kernel_rfl) (by kernel_rfl) (by kernel_rfl) (by kernel_rfl) (fun _ _ _ h => h) (by assumption) (by rfl) (fun w hSw => ?_) ?_
                          rotate_left
                          · (try dsimp only at hSw); go_simp; (try with_reducible rfl)
                          try simp only [Act.put, List.setIfInBounds_toArray, List.set_cons_zero, List.set_cons_succ]
                          refine' wpAnyZ_takeA (i := 1) (v := ?_) (opAt rfl) (by kernel_rfl) (by kernel_rfl) (by kernel_rfl) (by kernel_rfl) (fun _ _ _ h => h) (by assumption) (by rfl) (fun w hSw => ?_) ?_
                          rotate_left
                          · (try dsimp only at hSw); go_simp; (try with_reducible rfl)
                          try simp only [Act.put, List.setIfInBounds_toArray, List.set_cons_zero, List.set_cons_succ]
                          refine wpAnyZ_ready (rs := [2]) (by kernel_rfl) (by simp) ?_
                          refine AllReadyZ.cons (opAt rfl) (fun K hK => ?_) ?_
                          · skip
                            go_simp
                            refine (WDS.out _ _ _ (by rw [HML.out]; have := HLN.out; omega) _ (E.sl HML.out (by rw [HML.out]; exact Nat.le_refl _) (by have := HLN.out; omega)) (E9.sl HML.out (by rw [HML.out]; exact HCV.out.1) HCV.out.2)).mono ?_
                            rintro e w31 ⟨rfl, hb1⟩
                            replace M := M.below hb1
                            replace B2 := B2.trans (hb1.mono B2.size)
                            clear hb1
                            clear E E9
                            try go_wp2_with fail
                            refine hK.out _ _ (by exact ⟨HXN.out _ (HB4.out _ B2) 0, HXN.out _ (HB4.out _ B2) 1, HXN.out _ (HB4.out _ B2) 2, HXN.out _ (HB4.out _ B2) 3⟩) (fun hHeld => ?_)
                            clear hK K
                            try simp only [Act.put, List.setIfInBounds_toArray, List.set_cons_zero, List.set_cons_succ]
                            refine' wpAnyZ_takeA (i := 3) (v := ?_) (opAt rfl) (by kernel_rfl) (by kernel_rfl) (by kernel_rfl) (by kernel_rfl) (fun _ _ _ h => h) (by assumption) (by rfl) (fun w hSw => ?_) ?_
                            rotate_left
                            · (try dsimp only at hSw); go_simp; (try with_reducible rfl)
                            try simp only [Act.put, List.setIfInBounds_toArray, List.set_cons_zero, List.set_cons_succ]
                            refine' wpAnyZ_takeA (i := 4) (v := ?_) (opAt rfl) (by kernel_rfl) (by kernel_rfl) (by kernel_rfl) (by kernel_rfl) (fun _ _ _ h => h) (by assumption) (by rfl) (fun w hSw => ?_) ?_
                            rotate_left
                            · (try dsimp only at hSw); go_simp; (try with_reducible rfl)
                            try simp only [Act.put, List.setIfInBounds_toArray, List.set_cons_zero, List.set_cons_succ]
                            refine' wpAnyZ_takeA (i := 5) (v := ?_) (opAt rfl) (by kernel_rfl) (by kernel_rfl) (by kernel_rfl) (by kernel_rfl) (fun _ _ _ h => h) (by assumption) (by rfl) (fun w hSw => ?_) ?_
                            rotate_left
                            · (try dsimp only at hSw); go_simp; (try with_reducible rfl)
                            try simp only [Act.put, List.setIfInBounds_toArray, List.set_cons_zero, List.set_cons_succ]
                            refine' wpAnyZ_takeA (i := 7) (v := ?_) (opAt rfl) (by kernel_rfl) (by kernel_rfl) (by kernel_rfl) (by kernel_rfl) (fun _ _ _ h => h) (by assumption) (by rfl) (fun w hSw => ?_) ?_
                            rotate_left
                            · (try dsimp only at hSw); go_simp; (try with_reducible rfl)
                            try simp only [Act.put, List.setIfInBounds_toArray, List.set_cons_zero, List.set_cons_succ]
                            refine wpAnyZ_ready (rs := [6]) (by kernel_rfl) (by simp) ?_
                            refine AllReadyZ.cons (opAt rfl) (fun K hK => ?_) ?_
                            · skip
                              go_simp
                              refine (AD.out _ _ _ M).mono ?_
                              rintro e w32 ⟨⟨nv, rfl, ⟨nk, nu, rfl, n1, n2⟩⟩, hb1⟩
                              obtain ⟨N1, d1, rfl⟩ := n1.val
                              obtain ⟨N2, d2, rfl⟩ := n2.val
                              replace M := M.below hb1
                              replace B2 := B2.trans (hb1.mono B2.size)
                              clear hb1
                              try go_wp2_with fail
                              refine hK.out _ _ (by exact ⟨HXN.out _ (HB4.out _ B2) 0, HXN.out _ (HB4.out _ B2) 1, HXN.out _ (HB4.out _ B2) 2, HXN.out _ (HB4.out _ B2) 3⟩) (fun hHeld => ?_)
                              clear hK K
                              try simp only [Act.put, List.setIfInBounds_toArray, List.set_cons_zero, List.set_cons_succ]
                              refine wpAnyZ_ready (rs := [8]) (by kernel_rfl) (by simp) ?_
                              refine AllReadyZ.cons (opAt rfl) (fun K hK => ?_) ?_
                              · skip
                                go_simp
                                refine (SAM.out _ _ _ ⟨_, _, rfl, Sl.of_own n1, Sl.of_own n2⟩ ((HND.out.below (HBW.out _ B2)).more (HBW.out _ B2).size)).mono ?_
                                rintro e w33 ⟨rfl, hb1⟩
                                clear n1 n2
                                replace M := M.below hb1
                                replace B2 := B2.trans (hb1.mono B2.size)
                                clear hb1
                                try go_wp2_with fail
                                refine hK.out _ _ (by exact ⟨HXN.out _ (HB4.out _ B2) 0, HXN.out _ (HB4.out _ B2) 1, HXN.out _ (HB4.out _ B2) 2, HXN.out _ (HB4.out _ B2) 3⟩) (fun hHeld => ?_)
                                clear hK K
                                try simp only [Act.put, List.setIfInBounds_toArray, List.set_cons_zero, List.set_cons_succ]
                                refine' wpAnyZ_takeA (i := 9) (v := ?_) (opAt rfl) (by kernel_rfl) (by kernel_rfl) (by kernel_rfl) (by kernel_rfl) (fun _ _ _ h => h) (by assumption) (by rfl) (fun w hSw => ?_) ?_
                                rotate_left
                                · (try dsimp only at hSw); go_simp; (try with_reducible rfl)
                                try simp only [Act.put, List.setIfInBounds_toArray, List.set_cons_zero, List.set_cons_succ]
                                refine' wpAnyZ_takeA (i := 10) (v := ?_) (opAt rfl) (by kernel_rfl) (by kernel_rfl) (by kernel_rfl) (by kernel_rfl) (fun _ _ _ h => h) (by assumption) (by rfl) (fun w hSw => ?_) ?_
                                rotate_left
                                · (try dsimp only at hSw); go_simp; (try with_reducible rfl)
                                try simp only [Act.put, List.setIfInBounds_toArray, List.set_cons_zero, List.set_cons_succ]
                                refine wpAnyZ_ready (rs := [11]) (by kernel_rfl) (by simp) ?_
                                refine AllReadyZ.cons (opAt rfl) (fun K hK => ?_) ?_
                                · skip
                                  go_simp
                                  refine (AW.out _ (HBW.out _ B2)).mono ?_
                                  rintro e w34 ⟨rfl, hb1⟩
                                  replace M := M.below hb1
                                  replace B2 := B2.trans (hb1.mono B2.size)
                                  clear hb1
                                  try go_wp2_with fail
                                  refine hK.out _ _ (by exact ⟨HXN.out _ (HB4.out _ B2) 0, HXN.out _ (HB4.out _ B2) 1, HXN.out _ (HB4.out _ B2) 2, HXN.out _ (HB4.out _ B2) 3⟩) (fun hHeld => ?_)
                                  clear hK K
                                  try simp only [Act.put, List.setIfInBounds_toArray, List.set_cons_zero, List.set_cons_succ]
                                  refine' wpAnyZ_takeA (i := 12) (v := ?_) (opAt rfl) (by kernel_rfl) (by kernel_rfl) (by kernel_rfl) (by kernel_rfl) (fun _ _ _ h => h) (by assumption) (by rfl) (fun w hSw => ?_) ?_
                                  rotate_left
                                  · (try dsimp only at hSw); go_simp; (try with_reducible rfl)
                                  try simp only [Act.put, List.setIfInBounds_toArray, List.set_cons_zero, List.set_cons_succ]
                                  refine' wpAnyZ_takeA (i := 13) (v := ?_) (opAt rfl) (by kernel_rfl) (by kernel_rfl) (by kernel_rfl) (by kernel_rfl) (fun _ _ _ h => h) (by assumption) (by rfl) (fun w hSw => ?_) ?_
                                  rotate_left
                                  · (try dsimp only at hSw); go_simp; (try with_reducible rfl)
                                  try simp only [Act.put, List.setIfInBounds_toArray, List.set_cons_zero, List.set_cons_succ]
                                  refine wpAnyZ_done (by kernel_rfl) ?_ _
                                  go_wp2_with fail
                                  go_ret
                                  exact ⟨rfl, HBW.out _ B2⟩
                                exact AllReadyZ.nil
                              exact AllReadyZ.nil
                            exact AllReadyZ.nil
                          exact AllReadyZ.nil
                    exact AllReadyZ.nil
                  exact AllReadyZ.nil
                exact AllReadyZ.nil
              exact AllReadyZ.nil
    exact AllReadyZ.nil
  exact AllReadyZ.nil
end Go.Proofs.YtegldbhabeoboaaDoor

