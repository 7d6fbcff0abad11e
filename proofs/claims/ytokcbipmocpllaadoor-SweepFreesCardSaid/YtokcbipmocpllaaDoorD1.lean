/-
  SweepFrees' function where its arguments are within bounds.
-/
import Derived.Test.YtokcbipmocpllaaDoorC8
import Derived.Deep.CutRange
import Derived.Deep.CutBlock
import Derived.Deep.LoopGhost
namespace Go.Proofs.YtokcbipmocpllaaDoor
open Go.RowKit
attribute [local go_sem] past_cell past_cell_add

def SfD (hz : List Int) (s t f ep : Int) (N : Nat) (F0 ws : List Int) : Prop :=
  ws.length = N ∧ AllW64 ws ∧ FreeAre ws s t f F0 ∧ wGet ws 0 = ep ∧ (∀ j : Nat, (j : Int) < 2 * t → wGet ws (3 + t + j) = if j < hz.length then hmk 5 (hz.getD j 0) else 0)
theorem sf_ok {S E hz ws : List Int} {kp N : Nat} {s t f l p ep : Int} (hs : 1 ≤ s ∧ s ≤ 1000) (ht : 1 ≤ t ∧ t ≤ 64) (hf : 4 ≤ f ∧ f ≤ 64) (hN : laySize s t f = N) (hep : W64 ep) (h30 : S.length ≤ 30) (hE : S.length ≤ E.length) (wE : ∀ x ∈ E, W64 x) (hbd : ∀ a ∈ S, 2 ≤ a ∧ a ≤ s) (hnd : S.Nodup)
    (hsd : SfD hz s t f ep N (upN S (s - 1).toNat 2) ws) : SwRun.Ok ⟨s, t, f, l, p, ep, rL S E kp S.length, kL S kp S.length, hzW hz (2 * t).toNat, ws, upN S (s - 1).toNat 2⟩ := by
  obtain ⟨d1, d2, d3, d4, d5⟩ := hsd
  have h2 : ∀ a ∈ S, 2 ≤ a ∧ a ≤ 1000 := fun a ha => by have := hbd a ha; omega
  have hsub := td_slots (S := S) (E := E) (kp := kp) (hz := hzW hz (2 * t).toNat) (ep := ep) hE h2
  have hmem : ∀ x ∈ askTd (rL S E kp S.length) (kL S kp S.length) (hzW hz (2 * t).toNat) ep, x.1 % 65536 ∈ S := fun x hx => hsub.subset (List.mem_map.2 ⟨x, hx, rfl⟩)
  refine ⟨hs, ht, hf, hep, ?_, ?_, ?_, ?_, hzW_w64 _ _, ?_, ?_, d2, d4, ?_, d3, hnd.sublist hsub, fun x hx => ?_, fun x hx h9 => ?_, fun x hx => ?_⟩
  · show (rL S E kp S.length).length ≤ 30
    unfold rL
    rw [List.length_map, List.length_drop, List.length_take]
    omega
  · show (kL S kp S.length).length ≤ 30
    unfold kL
    rw [List.length_map, List.length_take, List.length_take]
    omega
  · intro x hx
    have hx' : x ∈ rL S E kp S.length := hx
    unfold rL at hx'
    obtain ⟨y, hy, rfl⟩ := List.mem_map.1 hx'
    exact ⟨hS_w64 _, wE _ (List.of_mem_zip (List.mem_of_mem_take (List.mem_of_mem_drop hy))).2⟩
  · intro x hx
    have hx' : x ∈ kL S kp S.length := hx
    unfold kL at hx'
    obtain ⟨y, _, rfl⟩ := List.mem_map.1 hx'
    exact hS_w64 _
  · show ((hzW hz (2 * t).toNat).length : Int) = 2 * t
    rw [hzW_len]
    omega
  · show (ws.length : Int) = laySize s t f
    rw [d1, hN]
  · intro i hi
    have hi' : i < (hzW hz (2 * t).toNat).length := hi
    rw [hzW_len] at hi'
    show wGet ws (3 + t + i) = (hzW hz (2 * t).toNat)[i]
    rw [d5 i (by omega), hzW_at hz _ i hi']
    by_cases h9 : i < hz.length
    · rw [if_pos h9, dif_pos h9, List.getD_eq_getElem?_getD, List.getElem?_eq_getElem h9]
      rfl
    · rw [if_neg h9, dif_neg h9]
  · have h9 := hbd _ (hmem x hx)
    exact ⟨by omega, h9.2⟩
  · exact ((upN_mem _ _ _ _).1 h9).2.2 (hmem x hx)
  · have h9 := (askTd_keys (rL S E kp S.length) (kL S kp S.length) (hzW hz (2 * t).toNat) ep).subset (List.mem_map.2 ⟨x, hx, rfl⟩)
    rw [kr_all hE] at h9
    obtain ⟨a, _, e⟩ := List.mem_map.1 h9
    rw [← e]
    exact hS_w64 _
def SfR [Inhabited GhT] (c : SwRun) (g gs : Nat) (CFv : Array Value) (w : World) (M : Nat) (iv : Value) (wr : World) : Prop :=
  ∃ (n : Nat) (k : Int) (cs : List Value) (ws : List Int), iv = .int .i64 n ∧ n ≤ M ∧ cs.length = 22 ∧ cs.toArray.all (·.oneCell') = true ∧ Blk wr gs 51 cs.toArray ∧ SwRun.St c n ws k wr (.agg cs.toArray) ∧ RefOk wr g ws ∧ ws.length = c.W0.length ∧ Blk wr w.heap.size 36 CFv ∧ Below w.heap.size w wr
theorem fl_end (S E HZ ws : List Int) (kp : Nat) (s t f l p ep : Int) : (SwRun.mk s t f l p ep (rL S E kp S.length) (kL S kp S.length) HZ ws (upN S (s - 1).toNat 2)).FL (SwRun.mk s t f l p ep (rL S E kp S.length) (kL S kp S.length) HZ ws (upN S (s - 1).toNat 2)).TD.length = frEnd S E HZ kp ep s := by
  unfold SwRun.FL frEnd SwRun.TD
  rw [List.take_length]
theorem rk_end (R : List (Int × Int)) (K HZ ws F0 : List Int) (s t f l p ep : Int) : (SwRun.mk s t f l p ep R K HZ ws F0).RK (SwRun.mk s t f l p ep R K HZ ws F0).TD.length = swEnd R K HZ ep := by
  unfold SwRun.RK swEnd SwRun.TD
  rw [List.take_length]
theorem cov_next {hz : List Int} {a z : Int} {k : Nat} (hk : k < hz.length) (hz1 : hz[k] = z) : decide (a ∈ hz.take (k + 1)) = (decide (a ∈ hz.take k) || (z == a)) := by
  rw [take_snocA hz k hk, hz1]
  by_cases h : a ∈ hz.take k
  · simp [h]
  · by_cases h2 : z = a
    · subst h2; simp
    · have h3 : ¬ a = z := fun e => h2 e.symm
      simp [h, h2, h3]
theorem cov_end {hz : List Int} {k T : Nat} (h : k = T ∨ (k = hz.length ∧ k ≤ T)) : hz.take k = hz.take T := by
  rcases h with rfl | ⟨h1, h2⟩
  · rfl
  · rw [List.take_of_length_le (by omega), List.take_of_length_le (by omega)]
theorem cover_kept {K hz : List Int} {a : Int} {T : Nat} {gb : Bool} (ha : 2 ≤ a ∧ a ≤ 1000) (h : hS a ∈ K ↔ gb = true ∧ a ∈ hz.take T) : coverB K (hS a) = (gb && decide (a ∈ hz.take T)) := by
  have hne : hS a ≠ 0 := by rw [hS_eq ha]; omega
  unfold coverB
  rw [show (hS a != 0) = true by simp [hne], Bool.and_true]
  by_cases h1 : hS a ∈ K
  · have h2 := h.1 h1
    simp [h1, h2.1, h2.2]
  · by_cases h2 : a ∈ hz.take T
    · have h3 : gb = false := by cases gb with | false => rfl | true => exact absurd (h.2 ⟨rfl, h2⟩) h1
      simp [h1, h3]
    · simp [h1, h2]
theorem hz_next {ws hz : List Int} {t z : Int} {i jn : Nat} (hi : i < hz.length) (hz1 : hz[i] = z) (hj : 3 + t + (i : Int) = jn) (hP : ∀ b, wGet (ws.set jn (hmk 5 z)) b = if b = jn then hmk 5 z else wGet ws b)
    (h : ∀ j : Nat, (j : Int) < 2 * t → wGet ws (3 + t + j) = if j < i then hmk 5 (hz.getD j 0) else 0) : ∀ j : Nat, (j : Int) < 2 * t → wGet (ws.set jn (hmk 5 z)) (3 + t + j) = if j < i + 1 then hmk 5 (hz.getD j 0) else 0 := by
  intro j hj2
  rw [hP]
  by_cases h9 : j = i
  · subst h9
    rw [if_pos hj, if_pos (by omega), List.getD_eq_getElem?_getD, List.getElem?_eq_getElem hi]
    exact congrArg (hmk 5) hz1.symm
  · rw [if_neg (by omega), h j hj2]
    by_cases h8 : j < i
    · rw [if_pos h8, if_pos (by omega)]
    · rw [if_neg h8, if_neg (by omega)]
theorem beg_low {s t f a : Int} (hs : 1 ≤ s ∧ s ≤ 1000) (ht : 1 ≤ t ∧ t ≤ 64) (hf : 4 ≤ f ∧ f ≤ 64) (h1 : 3 ≤ a) (h2 : a < 3 + 3 * t) : wGet (begL s t f) a = 0 := by
  have hsp := size_pos hs ht hf
  rw [beg_get ⟨by omega, by omega⟩]
  unfold begAt
  rw [if_neg (by omega)]
  unfold bK bOR
  have ho : oOf t f a < 0 := by
    unfold oOf
    exact Int.ediv_neg_of_neg_of_pos (by omega) (by omega)
  generalize oOf t f a = o at *
  generalize rOf t f a = r at *
  repeat' split
  all_goals omega
def SfC (hz : List Int) (s t f ep : Int) (N : Nat) (wa : World) (g : Nat) (F0 : List Int) (iv : Value) (wr : World) : Prop :=
  ∃ (i : Nat) (ws : List Int), iv = .int .i64 i ∧ i ≤ hz.length ∧ (i : Int) ≤ 2 * t ∧ ws.length = N ∧ AllW64 ws ∧ FreeAre ws s t f F0 ∧ wGet ws 0 = ep ∧ (∀ j : Nat, (j : Int) < 2 * t → wGet ws (3 + t + j) = if j < i then hmk 5 (hz.getD j 0) else 0) ∧ RefOk wr g ws ∧ wa.grownBy wr (some g)
theorem up_skip {S : List Int} {d : Nat} {k : Int} (h : k ∈ S) : upN S (d + 1) k = upN S d (k + 1) := by
  show (if k ∈ S then _ else _) = _
  rw [if_pos h]
theorem up_take {S : List Int} {d : Nat} {k : Int} (h : k ∉ S) : upN S (d + 1) k = k :: upN S d (k + 1) := by
  show (if k ∈ S then _ else _) = _
  rw [if_neg h]
theorem ch_link {ws L : List Int} {t f k fi : Int} (h : Ch (nxt ws t f) fi L) (hf : 4 ≤ f) (h0 : 0 ≤ nB t f k + 2) (h1 : nB t f k + 2 < ws.length) (hk : k ∉ L) : Ch (nxt (wPut ws (nB t f k + 2) fi) t f) k (k :: L) := by
  refine ⟨rfl, ?_⟩
  rw [nxt_put hf h0 h1, if_pos rfl]
  exact h.congr (fun y hy => by rw [nxt_put hf h0 h1, if_neg (fun e => hk (by rw [← e]; exact hy))])
def SfB (S : List Int) (s t f : Int) (N : Nat) (wa : World) (g : Nat) (ws0 : List Int) (fv kv : Value) (wr : World) : Prop :=
  ∃ (k fi : Int) (ws : List Int), fv = .int .i64 fi ∧ kv = .int .i64 k ∧ 1 ≤ k ∧ k ≤ s ∧ ws.length = N ∧ AllW64 ws ∧ Ch (nxt ws t f) fi (upN S (s - k).toNat (k + 1)) ∧ 0 ≤ fi ∧ fi ≤ s ∧ (∀ j, j < 3 + 3 * t → wGet ws j = wGet ws0 j) ∧ RefOk wr g ws ∧ wa.grownBy wr (some g)
theorem nodup_snoc {l : List Int} {a : Int} (h : l.Nodup) (hn : a ∉ l) : (l ++ [a]).Nodup := by
  rw [List.nodup_append]
  refine ⟨h, by simp, fun x hx y hy => ?_⟩
  simp at hy
  subst hy
  exact fun e => hn (e ▸ hx)
theorem kL_zero (S : List Int) (kp : Nat) : kL S kp 0 = [] := by simp [kL]
theorem rL_zero (S E : List Int) (kp : Nat) : rL S E kp 0 = [] := by simp [rL]
def SfA (S E : List Int) (kp : Nat) (s : Int) (ws : List Int) (w : World) (g gx : Nat) (CFv : Array Value) (all iv hv : Value) (wr : World) : Prop :=
  ∃ (i : Nat) (A0 : Option Addr) (c0 : Nat) (A1 : Option Addr) (n1 c1 : Nat) (A2 : Option Addr) (n2 c2 : Nat), iv = .int .i64 i ∧ i ≤ S.length ∧ all = .slice A0 i c0 ∧ hv = hv ∧
    wr.ownsRow (gx + 1) 3 1 (.slice A0 i c0) i (ints .i64 (S.take i)) ∧ n1 = (rL S E kp i).length ∧ n2 = (kL S kp i).length ∧
    wr.ownsRow (gx + 1) 31 2 (.slice A1 n1 c1) n1 (rec2 (rL S E kp i)) ∧ wr.ownsRow (gx + 1) 29 1 (.slice A2 n2 c2) n2 (ints .u64 (kL S kp i)) ∧
    Blk wr gx 25 #[.slice A1 n1 c1, .slice A2 n2 c2] ∧ Blk wr w.heap.size 36 CFv ∧ RefOk wr g ws ∧ Below w.heap.size w wr ∧ gx + 1 ≤ wr.heap.size ∧ (∀ a ∈ S.take i, 2 ≤ a ∧ a ≤ s) ∧ (S.take i).Nodup
set_option linter.unusedSimpArgs false in
set_option maxRecDepth 100000 in
set_option maxHeartbeats 16000000 in
theorem sf_yes (s t f l p kept ep : Int) (AS AE AH : Option Addr) (nS cS nE cE nH cH : Nat) (S E hz : List Int) (N : Nat) (w : World) (AW0 : ∀ w2, Below w.heap.size w w2 → Calls Tryd.prog 6 #[] w2 fun e w' => e = .returned (.bool true) ∧ Below w2.heap.size w2 w') (hT : Tab w) (hc : cfgOk s t f l p = true) (hN : laySize s t f = N) (hN5 : N ≤ 5000) (h30 : nS ≤ 30) (h200 : nH ≤ 200) (hE : nS ≤ nE)
    (rS : Reads w w.heap.size 1 AS nS (ints .i64 S)) (wS : ∀ x ∈ S, I64 x) (rE : Reads w w.heap.size 1 AE nE (ints .u64 E)) (wE : ∀ x ∈ E, W64 x) (rH : Reads w w.heap.size 1 AH nH (ints .i64 hz)) (wH : ∀ x ∈ hz, I64 x) (hep : W64 ep) :
    Calls Tryd.prog 4 #[.agg #[.int .i64 s, .int .i64 t, .int .i64 f, .int .i64 l, .int .i64 p], .slice AS nS cS, .slice AE nE cE, .int .i64 kept, .slice AH nH cH, .int .u64 ep] w fun e w' => e = .returned (.bool true) ∧ Below w.heap.size w w' := by
  obtain ⟨i0, hi0, hz0, hs0, hb0⟩ := info_parts infoI19
  obtain ⟨iu, hiu, hzu, hsu, hbu⟩ := info_parts infoU64
  obtain ⟨ir, hir, hzr, hsr, hbr⟩ := info_parts infoRecs
  have hb := cfgOk_iff.1 hc
  have hs : 1 ≤ s ∧ s ≤ 1000 := by omega
  have ht : 1 ≤ t ∧ t ≤ 64 := by omega
  have hf : 4 ≤ f ∧ f ≤ 64 := by omega
  have hsp := size_pos hs ht hf
  have hlS : S.length = nS := rS.lenWord
  have hlE : E.length = nE := rE.lenWord
  have hlH : hz.length = nH := rH.lenWord
  have AW := hide AW0
  have WR := hide (fun w2 => wrong_any s t f l p w2)
  have SZ := hide (fun w2 => rsize_any s t f l p w2)
  have B0 := (Below.refl w.heap.size w).alloc (Nat.le_refl _) (.cells #[.int .i64 s, .int .i64 t, .int .i64 f, .int .i64 l, .int .i64 p] 36)
  have xc := Blk.new w 36 #[.int .i64 s, .int .i64 t, .int .i64 f, .int .i64 l, .int .i64 p]
  have mc := fun i => xc.cell i
  have hq : ¬ 0 ≤ wrg s t f l p := by
    have h := wrg_ok (s := s) (t := t) (f := f) (l := l) (p := p)
    rw [hc] at h
    have := of_decide_eq_true h.symm
    omega
  rw [show rSize s t f l p = N by unfold rSize; rw [if_pos hc]; exact hN] at SZ
  have RN := hide (fun w2 => rnew10_any s t f l p N w2 hc hN)
  have HS := hide (And.intro hs (And.intro ht hf))
  have HL := hide (And.intro hlS (And.intro hlE hlH))
  have HN := hide (And.intro hN (And.intro hN5 hsp))
  have HW := hide (And.intro wS (And.intro wE wH))
  have HR := hide (And.intro rS (And.intro rE rH))
  have HEP := hide hep
  have HT := hide hT
  have HC := hide hc
  have h1i : ¬ (30 : Int) < (nS : Int) := by omega
  have h2i : ¬ (200 : Int) < (nH : Int) := by omega
  have h4i : ¬ (5000 : Int) < (N : Int) := by omega
  have h5i : ¬ (nE : Int) < (nS : Int) := by omega
  have HB := hide (show nS ≤ 30 ∧ nH ≤ 200 ∧ nS ≤ nE from ⟨h30, h200, hE⟩)
  generalize wrg s t f l p = q at *
  clear hb hs ht hf hsp hlS hlE hlH hT hc hN hN5 h30 h200 hE rS wS rE wE rH wH hep
  go_enter Tryd.func4, Tryd.ntmps4
  go_wp2_with fail
  refine (WR.out _).mono ?_
  rintro e w1 ⟨rfl, hb1⟩
  replace xc := xc.below hb1 xc.lt
  replace B0 := B0.trans (hb1.mono B0.size)
  clear hb1 mc
  have mc := fun i => xc.cell i
  go_wp2_with fail
  refine (SZ.out _).mono ?_
  rintro e w2 ⟨rfl, hb1⟩
  replace xc := xc.below hb1 xc.lt
  replace B0 := B0.trans (hb1.mono B0.size)
  clear hb1 mc
  have mc := fun i => xc.cell i
  go_wp2_with fail
  refine (RN.out _).mono ?_
  rintro e w3 ⟨⟨g, rfl, R, hg⟩, hb1⟩
  have hg0 := hide (show w.heap.size < g from Nat.lt_of_lt_of_le xc.lt hg)
  clear hg
  replace xc := xc.below hb1 xc.lt
  replace B0 := B0.trans (hb1.mono B0.size)
  clear hb1 mc
  have mc := fun i => xc.cell i
  have hlen : (begL s t f).length = N := by rw [begL_len, HN.out.1]; rfl
  have hN0 : (0 : Int) < (N : Int) := by have := HN.out.2.2; have := HN.out.1; have := HS.out.2.1; omega
  have hN0n : 0 < N := by omega
  have mg := R.at_ (j := 0) (by rw [hlen]; exact hN0n)
  have zg := fun i => Blk.frozen (w := w3) (g := g) R i
  have R2 := (R.set_ 0 ep).below ((Below.refl _ _).alloc (Nat.le_refl _) (.cells #[.slice none 0 0, .slice none 0 0] 25))
  have hgx : g < w3.heap.size := Blk.lt (w := w3) (g := g) R
  have hgx2 := xc.lt
  have x2 := (xc.far (p := ⟨g, 0, none⟩) (by have := hg0.out; show w.heap.size ≠ g; omega) (.int .u64 ep)).alloc (.cells #[.slice none 0 0, .slice none 0 0] 25)
  have bx := Blk.new (w3.setCell ⟨g, 0, none⟩ (.int .u64 ep)) 25 #[.slice none 0 0, .slice none 0 0]
  rw [World.size_setCell] at bx
  replace B0 := (B0.setCell (p := ⟨g, 0, none⟩) (show w.heap.size ≤ g by have := hg0.out; omega) (.int .u64 ep)).alloc (by rw [World.size_setCell]; exact B0.size) (.cells #[.slice none 0 0, .slice none 0 0] 25)
  have HW0 := hide (show ((begL s t f).set 0 ep).length = N ∧ AllW64 ((begL s t f).set 0 ep) from ⟨by rw [List.length_set]; exact hlen, fun x hx => by rcases List.mem_or_eq_of_mem_set hx with hx | rfl; exact begL_w64 HS.out.1.2 x hx; exact HEP.out⟩)
  generalize hws : (begL s t f).set 0 ep = ws0 at *
  replace hws := hide hws
  have HGX := hide (And.intro hgx hgx2)
  clear hgx hgx2 hlen
  go_wp2_with fail
  clear mg zg mc xc R hN0 hN0n
  generalize (w3.setCell ⟨g, 0, none⟩ (.int .u64 ep)).alloc (.cells #[.slice none 0 0, .slice none 0 0] 25) = w5 at *
  generalize w3.heap.size = gx at *
  have hx5 := hide bx.lt
  go_loopw [15, 16, 17] (SfA S E kept.toNat s ws0 w g gx #[.int .i64 s, .int .i64 t, .int .i64 f, .int .i64 l, .int .i64 p]) (fun _ i _ _ => nS - (intOf i).toNat)
  case atStart => exact ⟨0, none, 0, none, 0, 0, none, 0, 0, rfl, Nat.zero_le _, rfl, rfl, by rw [List.take_zero]; exact World.ownsRow_nil _ _ _ _, by rw [rL_zero]; rfl, by rw [kL_zero]; rfl, by rw [rL_zero]; exact World.ownsRow_nil _ _ _ _, by rw [kL_zero]; exact World.ownsRow_nil _ _ _ _, bx, x2, R2, B0, bx.lt, by intro a ha; simp at ha, by rw [List.take_zero]; exact List.nodup_nil⟩
  case round =>
    clear B0 R2 x2 bx
    obtain ⟨i, A0, c0, A1, n1, c1, A2, n2, c2, rfl, hi, rfl, _, o0, hn1, hn2, o1, o2, bx, xc, R, B0, hgw, hbd, hnd⟩ := hrel
    have HN1 := hide (And.intro hn1 hn2)
    clear hn1 hn2
    have HBD := hide (And.intro hbd hnd)
    clear hbd hnd
    have HI := hide hi
    clear hi
    have HGW := hide hgw
    clear hgw
    have mc := fun i => xc.cell i
    have hlS := HL.out.1
    by_cases hlt : i < nS
    · skip
      have hlt2 : (i : Int) < (nS : Int) := by omega
      obtain ⟨aS, eS, hiS, zS⟩ := ((HR.out.1.below B0).more B0.size).word hlt
      have WSi := HW.out.1 S[i] (List.getElem_mem _)
      have HA := hide (show ∃ h9 : i < S.length, S[i]'h9 = S[i] from ⟨hiS, rfl⟩)
      generalize hG : S[i] = a at *
      have HG := hide hG
      clear hG HA hlS
      have hbS := hide (show aS.block < w.heap.size from by have h9 := HR.out.1.2 (by omega); obtain ⟨ad, e9, h8, _⟩ := h9; rw [eS] at e9; injection e9 with e9; rw [e9]; exact h8)
      subst eS
      have hxl := xc.lt
      have haS : aS.block < wr.heap.size := Nat.lt_of_lt_of_le hbS.out B0.size
      have RH0 := hide (fun (x : Bel wr) => rhas10_any A0 i c0 (S.take i) a (past wr x) (by have := HB.out.1; omega) (((Reads.of_own o0).below (past_below wr x)).more (past_below wr x).size))
      by_cases hb1 : a < 2
      · skip
        go_wp2_with fail
        refine wp_region_past (by kernel_rfl) (by kernel_rfl) ?_
        repeat (quiet_step ((first | ((go_at_call 13; exact calls_past (RH0.out _))))))
        refine wpQuiet_nil ?_
        intro _ hw'
        obtain ⟨y, hw''⟩ := hw'
        subst hw''
        have hy := past_below wr y
        go_wp2_with fail
        refine (AW.out _ (B0.trans (hy.mono B0.size))).mono ?_
        rintro e w9 ⟨rfl, hb1⟩
        go_wp2_with fail
        go_ret
        exact ⟨rfl, (B0.trans (hy.mono B0.size)).trans (hb1.mono (B0.trans (hy.mono B0.size)).size)⟩
      by_cases hb2 : s < a
      · skip
        go_wp2_with fail
        refine wp_region_past (by kernel_rfl) (by kernel_rfl) ?_
        repeat (quiet_step ((first | ((go_at_call 13; exact calls_past (RH0.out _))))))
        refine wpQuiet_nil ?_
        intro _ hw'
        obtain ⟨y, hw''⟩ := hw'
        subst hw''
        have hy := past_below wr y
        go_wp2_with fail
        refine (AW.out _ (B0.trans (hy.mono B0.size))).mono ?_
        rintro e w9 ⟨rfl, hb1⟩
        go_wp2_with fail
        go_ret
        exact ⟨rfl, (B0.trans (hy.mono B0.size)).trans (hb1.mono (B0.trans (hy.mono B0.size)).size)⟩
      cases hb3 : decide (a ∈ S.take i) with
      | true =>
        rw [hb3] at RH0
        clear hb3
        go_wp2_with fail
        refine wp_region_past (by kernel_rfl) (by kernel_rfl) ?_
        repeat (quiet_step ((first | ((go_at_call 13; exact calls_past (RH0.out _))))))
        refine wpQuiet_nil ?_
        intro _ hw'
        obtain ⟨y, hw''⟩ := hw'
        subst hw''
        have hy := past_below wr y
        go_wp2_with fail
        refine (AW.out _ (B0.trans (hy.mono B0.size))).mono ?_
        rintro e w9 ⟨rfl, hb1⟩
        go_wp2_with fail
        go_ret
        exact ⟨rfl, (B0.trans (hy.mono B0.size)).trans (hb1.mono (B0.trans (hy.mono B0.size)).size)⟩
      | false =>
        rw [hb3] at RH0
        have HNI := hide hb3
        clear hb3
        go_wp2_with fail
        refine wp_region_past (by kernel_rfl) (by kernel_rfl) ?_
        repeat (quiet_step ((first | ((go_at_call 13; exact calls_past (RH0.out _))))))
        refine wpQuiet_nil ?_
        intro _ hw'
        obtain ⟨y, hw''⟩ := hw'
        subst hw''
        have hy := past_below wr y
        clear zS mc hxl haS RH0
        replace o0 := own_below o0 hy
        replace o1 := own_below o1 hy
        replace o2 := own_below o2 hy
        replace bx := bx.below hy bx.lt
        replace xc := xc.below hy xc.lt
        replace R := RefOk.below R hy
        replace B0 := B0.trans (hy.mono B0.size)
        replace HGW := hide (Nat.le_trans HGW.out hy.size)
        clear hy
        generalize past wr y = w6 at *
        obtain ⟨a9, e9, _, zS⟩ := ((HR.out.1.below B0).more B0.size).word hlt
        injection e9 with e9
        subst e9
        rw [HG.out] at zS
        have mc := fun i => xc.cell i
        have hz5 := HGW.out
        have HPN := hide (show i ≤ 4294967296 by have := HB.out.1; omega)
        go_wp2_with (at_builtin; refine wpList_append_one rfl (.tmp 91) (.tmp 96) _ rfl (gx + 1) 3 i0 _ 1 8 Tryd.underlying27 hi0 hz0 hs0 hb0 rfl (by omega) (by omega) _ _ _ rfl (o0.alloc (.cells #[.int .i64 a] 3)) w6.heap.size #[.int .i64 a] rfl (Blk.new _ _ _) rfl rfl HPN.out (by rw [World.size_alloc]; omega) ?_; intro A3 c3 w7 o7 hg7 hat7; clear zS mc hz5; have oL := o0.alloc (.cells #[.int .i64 a] 3); replace o1 := own_other (o1.alloc (.cells #[.int .i64 a] 3)) oL (by decide) hg7; replace o2 := own_other (o2.alloc (.cells #[.int .i64 a] 3)) oL (by decide) hg7; replace bx := blk_appended (bx.alloc (.cells #[.int .i64 a] 3)) oL hg7 (Nat.lt_succ_self _); replace xc := blk_appended (xc.alloc (.cells #[.int .i64 a] 3)) oL hg7 (by have := HGX.out.2; have := HGX.out.1; have := hg0.out; omega); replace R := blk_appended (Blk.alloc R (.cells #[.int .i64 a] 3)) oL hg7 (by have := HGX.out.1; omega); replace B0 := below_appended (B0.alloc B0.size (.cells #[.int .i64 a] 3)) oL hg7 (by have := HGX.out.2; omega) (by rw [World.size_alloc]; have := B0.size; omega); replace HGW := hide (Nat.le_trans (Nat.le_trans HGW.out (by rw [World.size_alloc]; exact Nat.le_succ _)) hg7.size); replace o0 := o7; clear o7 oL hg7 hat7; obtain ⟨a9, e9, _, zS⟩ := ((HR.out.1.below B0).more B0.size).word hlt; injection e9 with e9; subst e9; rw [HG.out] at zS; have mc := fun i => xc.cell i)
        refine (rhm_any 5 a w7 ⟨by decide, by decide⟩ WSi).mono ?_
        rintro e w8 ⟨rfl, rfl⟩
        clear mc zS
        generalize hh : hmk 5 a = h9 at *
        replace hh := hide hh
        have ET := hide (show ints .i64 (S.take (i + 1)) = ints .i64 (S.take i) ++ [.int .i64 a] by rw [take_snocA S i hiS, ints_append, HG.out]; rfl)
        have HBE := hide (show (∀ b ∈ S.take (i + 1), 2 ≤ b ∧ b ≤ s) ∧ (S.take (i + 1)).Nodup from by rw [take_snocA S i hiS, HG.out]; refine ⟨fun b hb => ?_, nodup_snoc HBD.out.2 (of_decide_eq_false HNI.out)⟩; rcases List.mem_append.1 hb with hb | hb; exact HBD.out.1 b hb; rw [List.mem_singleton] at hb; subst hb; exact ⟨by omega, by omega⟩)
        by_cases hk : (i : Int) < kept
        · skip
          have mx := fun i => bx.cell i
          have zx := fun i => bx.frozen i
          have hz5 := HGW.out
          have HPK := hide (show n2 ≤ 4294967296 by have h9 := HN1.out.2; unfold kL at h9; rw [List.length_map, List.length_take, List.length_take] at h9; have := HB.out.1; omega)
          go_wp2_with (at_builtin; refine wpList_append_one rfl (.tmp 107) (.tmp 109) _ rfl (gx + 1) 29 iu _ 1 8 Tryd.underlying23 hiu hzu hsu hbu rfl (by omega) (by omega) _ _ _ rfl (o2.alloc (.cells #[.int .u64 h9] 29)) w7.heap.size #[.int .u64 h9] rfl (Blk.new _ _ _) rfl rfl HPK.out (by rw [World.size_alloc]; omega) ?_; intro A4 c4 w8 o8 hg7 hat7; clear mx zx hz5; have oL := o2.alloc (.cells #[.int .u64 h9] 29); replace o0 := own_other (o0.alloc (.cells #[.int .u64 h9] 29)) oL (by decide) hg7; replace o1 := own_other (o1.alloc (.cells #[.int .u64 h9] 29)) oL (by decide) hg7; replace bx := blk_appended (bx.alloc (.cells #[.int .u64 h9] 29)) oL hg7 (Nat.lt_succ_self _); replace xc := blk_appended (xc.alloc (.cells #[.int .u64 h9] 29)) oL hg7 (by have := HGX.out.2; have := HGX.out.1; have := hg0.out; omega); replace R := blk_appended (Blk.alloc R (.cells #[.int .u64 h9] 29)) oL hg7 (by have := HGX.out.1; omega); replace B0 := below_appended (B0.alloc B0.size (.cells #[.int .u64 h9] 29)) oL hg7 (by have := HGX.out.2; omega) (by rw [World.size_alloc]; have := B0.size; omega); replace HGW := hide (Nat.le_trans (Nat.le_trans HGW.out (by rw [World.size_alloc]; exact Nat.le_succ _)) hg7.size); replace o2 := o8; clear o8 oL hg7 hat7; have mx := fun i => bx.cell i; have zx := fun i => bx.frozen i)
          clear mx zx HPK
          replace o0 := own_setCell_far o0 (p := ⟨gx, 1, none⟩) (Nat.lt_succ_self gx) (.slice A4 (n2 + 1) c4)
          replace o1 := own_setCell_far o1 (p := ⟨gx, 1, none⟩) (Nat.lt_succ_self gx) (.slice A4 (n2 + 1) c4)
          replace o2 := own_setCell_far o2 (p := ⟨gx, 1, none⟩) (Nat.lt_succ_self gx) (.slice A4 (n2 + 1) c4)
          replace bx := bx.set_ 1 (.slice A4 (n2 + 1) c4)
          simp only [List.setIfInBounds_toArray, List.set_cons_zero, List.set_cons_succ] at bx
          replace xc := xc.far (p := ⟨gx, 1, none⟩) (by have := HGX.out.2; show w.heap.size ≠ gx; omega) (.slice A4 (n2 + 1) c4)
          replace R := Blk.far R (p := ⟨gx, 1, none⟩) (by have := HGX.out.1; show g ≠ gx; omega) (.slice A4 (n2 + 1) c4)
          replace B0 := B0.setCell (p := ⟨gx, 1, none⟩) (show w.heap.size ≤ gx by have := HGX.out.2; omega) (.slice A4 (n2 + 1) c4)
          replace HGW := hide (show gx + 1 ≤ (w8.setCell ⟨gx, 1, none⟩ (.slice A4 (n2 + 1) c4)).heap.size by rw [World.size_setCell]; exact HGW.out)
          generalize w8.setCell ⟨gx, 1, none⟩ (.slice A4 (n2 + 1) c4) = w10 at *
          have hkp : i < kept.toNat := by omega
          have EK := hide (kL_lo (S := S) (kp := kept.toNat) hiS hkp)
          have ER := hide (rL_lo (S := S) (E := E) hkp)
          go_roundw
          case measure => simp [intOf]; omega
          case rel => exact ⟨i + 1, A3, c3, A1, n1, c1, A4, n2 + 1, c4, by go_num, hiS, rfl, rfl, by rw [ET.out]; exact o0, by rw [ER.out]; exact HN1.out.1, by rw [EK.out, List.length_append]; exact congrArg (· + 1) HN1.out.2, by rw [ER.out]; exact o1, by rw [EK.out, ints_append, HG.out, show hS a = h9 from hh.out]; exact o2, bx, xc, R, B0, HGW.out, HBE.out.1, HBE.out.2⟩
        · skip
          have hiE : i < nE := by have := HB.out.2.2; omega
          obtain ⟨aE, eE, hiE2, zE⟩ := ((HR.out.2.1.below B0).more B0.size).word hiE
          generalize hGE : E[i] = e1 at *
          have HGE := hide hGE
          clear hGE
          subst eE
          have hiE3 : (i : Int) < (nE : Int) := by omega
          have mx := fun i => bx.cell i
          have HPR := hide (show n1 ≤ 4294967296 by have h9 := HN1.out.1; unfold rL at h9; rw [List.length_map, List.length_drop, List.length_take] at h9; have := HB.out.1; omega)
          go_wp2_with fail
          replace o0 := o0.drew
          replace o1 := o1.drew
          replace o2 := o2.drew
          replace bx := bx.drew
          replace xc := xc.drew
          replace R := Blk.drew R
          replace B0 := B0.drew
          replace zE : w7.drew.cell? (aE.add i) = some (.int .u64 e1) := zE
          replace HGW := hide (show gx + 1 ≤ w7.drew.heap.size from HGW.out)
          clear mx
          refine wp_region_heldZ [11] (fun w' => w'.cell? ⟨gx, 0, none⟩ = some (.slice A1 n1 c1) ∧ w'.cell? (aE.add i) = some (.int .u64 e1)) (by as_aux_lemma => kernel_rfl) (by exact ⟨bx.cell 0, zE⟩) (fun hHeld => ?_)
          generalize w7.drew = wd at *
          have HBE2 := hide (show aE.block < wd.heap.size from by have h9 := HR.out.2.1.2 (by omega); obtain ⟨ad, e9, h8, _⟩ := h9; injection e9 with e9; rw [e9]; exact Nat.lt_of_lt_of_le h8 B0.size)
          refine' wpAnyZ_takeA (i := 0) (v := ?_) (opAt rfl) (by as_aux_lemma => kernel_rfl) (by as_aux_lemma => kernel_rfl) (by as_aux_lemma => kernel_rfl) (by as_aux_lemma => kernel_rfl) (fun _ _ _ h => h) (by assumption) (by rfl) (fun w hSw => ?_) ?_
          rotate_left
          · (try dsimp only at hSw); go_simp; (try with_reducible rfl)
          try simp only [Act.put, List.setIfInBounds_toArray, List.set_cons_zero, List.set_cons_succ]
          refine' wpAnyZ_takeA (i := 1) (v := ?_) (opAt rfl) (by as_aux_lemma => kernel_rfl) (by as_aux_lemma => kernel_rfl) (by as_aux_lemma => kernel_rfl) (by as_aux_lemma => kernel_rfl) (fun _ _ _ h => h) (by assumption) (by rfl) (fun w hSw => ?_) ?_
          rotate_left
          · (try dsimp only at hSw); go_simp; (try with_reducible rfl)
          try simp only [Act.put, List.setIfInBounds_toArray, List.set_cons_zero, List.set_cons_succ]
          refine' wpAnyZ_takeA (i := 2) (v := ?_) (opAt rfl) (by as_aux_lemma => kernel_rfl) (by as_aux_lemma => kernel_rfl) (by as_aux_lemma => kernel_rfl) (by as_aux_lemma => kernel_rfl) (fun _ _ _ h => h) (by assumption) (by rfl) (fun w hSw => ?_) ?_
          rotate_left
          · (try dsimp only at hSw); go_simp; (try with_reducible rfl)
          try simp only [Act.put, List.setIfInBounds_toArray, List.set_cons_zero, List.set_cons_succ]
          refine' wpAnyZ_takeA (i := 3) (v := ?_) (opAt rfl) (by as_aux_lemma => kernel_rfl) (by as_aux_lemma => kernel_rfl) (by as_aux_lemma => kernel_rfl) (by as_aux_lemma => kernel_rfl) (fun _ _ _ h => h) (by assumption) (by rfl) (fun w hSw => ?_) ?_
          rotate_left
          · (try dsimp only at hSw); go_simp; (try with_reducible rfl)
          try simp only [Act.put, List.setIfInBounds_toArray, List.set_cons_zero, List.set_cons_succ]
          refine' wpAnyZ_takeA (i := 4) (v := ?_) (opAt rfl) (by as_aux_lemma => kernel_rfl) (by as_aux_lemma => kernel_rfl) (by as_aux_lemma => kernel_rfl) (by as_aux_lemma => kernel_rfl) (fun _ _ _ h => h) (by assumption) (by rfl) (fun w hSw => ?_) ?_
          rotate_left
          · (try dsimp only at hSw); go_simp; (try with_reducible rfl)
          try simp only [Act.put, List.setIfInBounds_toArray, List.set_cons_zero, List.set_cons_succ]
          refine' wpAnyZ_takeA (i := 5) (v := ?_) (opAt rfl) (by as_aux_lemma => kernel_rfl) (by as_aux_lemma => kernel_rfl) (by as_aux_lemma => kernel_rfl) (by as_aux_lemma => kernel_rfl) (fun _ _ _ h => h) (by assumption) (by rfl) (fun w hSw => ?_) ?_
          rotate_left
          · (try dsimp only at hSw); go_simp; (try with_reducible rfl)
          try simp only [Act.put, List.setIfInBounds_toArray, List.set_cons_zero, List.set_cons_succ]
          refine' wpAnyZ_takeA (i := 6) (v := ?_) (opAt rfl) (by as_aux_lemma => kernel_rfl) (by as_aux_lemma => kernel_rfl) (by as_aux_lemma => kernel_rfl) (by as_aux_lemma => kernel_rfl) (fun _ _ _ h => h) (by assumption) (by rfl) (fun w hSw => ?_) ?_
          rotate_left
          · (try dsimp only at hSw); go_simp; (try with_reducible rfl)
          try simp only [Act.put, List.setIfInBounds_toArray, List.set_cons_zero, List.set_cons_succ]
          refine' wpAnyZ_takeA (i := 7) (v := ?_) (opAt rfl) (by as_aux_lemma => kernel_rfl) (by as_aux_lemma => kernel_rfl) (by as_aux_lemma => kernel_rfl) (by as_aux_lemma => kernel_rfl) (fun _ _ _ h => h) (by assumption) (by rfl) (fun w hSw => ?_) ?_
          rotate_left
          · (try dsimp only at hSw); go_simp; (try with_reducible rfl)
          try simp only [Act.put, List.setIfInBounds_toArray, List.set_cons_zero, List.set_cons_succ]
          refine wpAnyZ_ready (rs := [8]) (by as_aux_lemma => kernel_rfl) (by simp) ?_
          refine AllReadyZ.cons (opAt rfl) (fun K hK => ?_) ?_
          · skip
            go_simp
            replace o0 := o0.alloc (.cells #[.int .u64 h9, .int .u64 e1] 31)
            replace o1 := o1.alloc (.cells #[.int .u64 h9, .int .u64 e1] 31)
            replace o2 := o2.alloc (.cells #[.int .u64 h9, .int .u64 e1] 31)
            replace bx := bx.alloc (.cells #[.int .u64 h9, .int .u64 e1] 31)
            replace xc := xc.alloc (.cells #[.int .u64 h9, .int .u64 e1] 31)
            replace R := Blk.alloc R (.cells #[.int .u64 h9, .int .u64 e1] 31)
            replace B0 := B0.alloc B0.size (.cells #[.int .u64 h9, .int .u64 e1] 31)
            have bl := Blk.new wd 31 #[.int .u64 h9, .int .u64 e1]
            replace zE : (wd.alloc (.cells #[.int .u64 h9, .int .u64 e1] 31)).cell? (aE.add i) = some (.int .u64 e1) := (by rw [World.cell?_alloc_lt wd (.cells #[.int .u64 h9, .int .u64 e1] 31) (aE.add i) (by rw [block_of_add]; exact HBE2.out)]; exact zE)
            replace HGW := hide (show gx + 1 ≤ (wd.alloc (.cells #[.int .u64 h9, .int .u64 e1] 31)).heap.size by rw [World.size_alloc]; exact Nat.le_succ_of_le HGW.out)
            generalize wd.alloc (.cells #[.int .u64 h9, .int .u64 e1] 31) = we at *
            refine hK.out _ _ (by exact ⟨bx.cell 0, zE⟩) (fun hHeld => ?_)
            clear hK K
            try simp only [Act.put, List.setIfInBounds_toArray, List.set_cons_zero, List.set_cons_succ]
            refine wpAnyZ_ready (rs := [9]) (by as_aux_lemma => kernel_rfl) (by simp) ?_
            refine AllReadyZ.cons (opAt rfl) (fun K hK => ?_) ?_
            · skip
              refine step_append_one (by rfl) (.tmp 113) (.tmp 120) _ (by rfl) (gx + 1) 31 ir _ 2 16 Tryd.underlying22 hir hzr hsr hbr rfl (by decide) (by decide) _ n1 _ (by rfl) o1 _ #[.int .u64 h9, .int .u64 e1] (by rfl) bl rfl rfl HPR.out HGW.out ?_
              intro A4 c4 w8 o8 hg7 hat7
              replace o0 := own_other o0 o1 (by decide) hg7
              replace o2 := own_other o2 o1 (by decide) hg7
              replace bx := blk_appended bx o1 hg7 (Nat.lt_succ_self _)
              replace xc := blk_appended xc o1 hg7 (by have := HGX.out.2; have := HGX.out.1; have := hg0.out; omega)
              replace R := blk_appended R o1 hg7 (by have := HGX.out.1; omega)
              replace B0 := below_appended B0 o1 hg7 (by have := HGX.out.2; omega) B0.size
              replace HGW := hide (Nat.le_trans HGW.out hg7.size)
              replace zE : w8.cell? (aE.add i) = some (.int .u64 e1) := (by have h9 := ((HR.out.2.1.below B0).more B0.size).word hiE; obtain ⟨a9, e9, _, z9⟩ := h9; injection e9 with e9; subst e9; rw [HGE.out] at z9; exact z9)
              replace o1 := o8
              clear o8 hg7 hat7 bl
              refine hK.out _ _ (by exact ⟨bx.cell 0, zE⟩) (fun hHeld => ?_)
              clear hK K
              try simp only [Act.put, List.setIfInBounds_toArray, List.set_cons_zero, List.set_cons_succ]
              refine' wpAnyZ_takeA (i := 10) (v := ?_) (opAt rfl) (by as_aux_lemma => kernel_rfl) (by as_aux_lemma => kernel_rfl) (by as_aux_lemma => kernel_rfl) (by as_aux_lemma => kernel_rfl) (fun _ _ _ h => h) (by assumption) (by rfl) (fun w hSw => ?_) ?_
              rotate_left
              · (try dsimp only at hSw); go_simp; (try with_reducible rfl)
              try simp only [Act.put, List.setIfInBounds_toArray, List.set_cons_zero, List.set_cons_succ]
              refine wpAnyZ_ready (rs := [11]) (by as_aux_lemma => kernel_rfl) (by simp) ?_
              refine AllReadyZ.last (opAt rfl) (by as_aux_lemma => kernel_rfl) (fun K hK => ?_) ?_
              · skip
                have zx := fun i => bx.frozen i
                go_simp
                refine hK.out _ _ ?_
                clear hK K
                try simp only [Act.put, List.setIfInBounds_toArray, List.set_cons_zero, List.set_cons_succ]
                refine wpAnyZ_done (by as_aux_lemma => kernel_rfl) ?_ _
                clear hHeld zE
                replace o0 := own_setCell_far o0 (p := ⟨gx, 0, none⟩) (Nat.lt_succ_self gx) (.slice A4 (n1 + 1) c4)
                replace o1 := own_setCell_far o1 (p := ⟨gx, 0, none⟩) (Nat.lt_succ_self gx) (.slice A4 (n1 + 1) c4)
                replace o2 := own_setCell_far o2 (p := ⟨gx, 0, none⟩) (Nat.lt_succ_self gx) (.slice A4 (n1 + 1) c4)
                replace bx := bx.set_ 0 (.slice A4 (n1 + 1) c4)
                simp only [List.setIfInBounds_toArray, List.set_cons_zero, List.set_cons_succ] at bx
                replace xc := xc.far (p := ⟨gx, 0, none⟩) (by have := HGX.out.2; show w.heap.size ≠ gx; omega) (.slice A4 (n1 + 1) c4)
                replace R := Blk.far R (p := ⟨gx, 0, none⟩) (by have := HGX.out.1; show g ≠ gx; omega) (.slice A4 (n1 + 1) c4)
                replace B0 := B0.setCell (p := ⟨gx, 0, none⟩) (show w.heap.size ≤ gx by have := HGX.out.2; omega) (.slice A4 (n1 + 1) c4)
                replace HGW := hide (show gx + 1 ≤ (w8.setCell ⟨gx, 0, none⟩ (.slice A4 (n1 + 1) c4)).heap.size by rw [World.size_setCell]; exact HGW.out)
                generalize w8.setCell ⟨gx, 0, none⟩ (.slice A4 (n1 + 1) c4) = w10 at *
                clear zx
                have hkp : kept.toNat ≤ i := by omega
                have EK := hide (kL_hi (S := S) hkp)
                have ER := hide (rL_hi (S := S) (E := E) hiS (by have := HL.out; have := HB.out.2.2; omega) hkp)
                go_wp2_with fail
                go_roundw
                case measure => simp [intOf]; omega
                case rel => exact ⟨i + 1, A3, c3, A4, n1 + 1, c4, A2, n2, c2, by go_num, hiS, rfl, rfl, by rw [ET.out]; exact o0, by rw [ER.out, List.length_append]; exact congrArg (· + 1) HN1.out.1, by rw [EK.out]; exact HN1.out.2, by rw [ER.out, rec2_append, HG.out, HGE.out, show hS a = h9 from hh.out]; exact o1, by rw [EK.out]; exact o2, bx, xc, R, B0, HGW.out, HBE.out.1, HBE.out.2⟩
              exact AllReadyZ.nil
            exact AllReadyZ.nil
          exact AllReadyZ.nil
    · skip
      have hin : i = nS := by have := HI.out; omega
      subst hin
      have hlt2 : ¬ (i : Int) < (i : Int) := by omega
      clear hlt mc
      have hST : S.take i = S := List.take_of_length_le (by omega)
      rw [hST] at o0 HBD
      rw [← hlS] at o1 o2 HN1
      skip
      have mc := fun i => xc.cell i
      go_wp2_with fail
      clear mc hST
      obtain ⟨wA, hwA⟩ : ∃ wA, wA = wr := ⟨_, rfl⟩
      subst hwA
      have XCF := hide (fun (w9 : World) (h : wA.grownBy w9 (some g)) => Blk.grown xc h (by have := hg0.out; simp; omega))
      have OWF := hide (fun (w9 : World) (h : wA.grownBy w9 (some g)) => o0.kept h (own_ne_row o0 (by have := HGX.out.1; omega)))
      have RH1 := hide (fun k (w2 : World) (h : wA.grownBy w2 (some g)) => rhas10_any A0 i c0 S k w2 (by have := HB.out.1; omega) (Reads.of_own (OWF.out w2 h)))
      have LK := hide (fun (k : Int) (hk : 1 ≤ k ∧ k ≤ s) (jn : Nat) (hj : nB t f k + 2 = jn) w2 => (by have h9 := rlnkB_any s t f l p k w2 HS.out.1 HS.out.2.1 HS.out.2.2 (by omega); rw [hj] at h9; exact h9 : Calls Tryd.prog 15 #[.agg #[.int .i64 s, .int .i64 t, .int .i64 f, .int .i64 l, .int .i64 p], .int .i64 k] w2 fun e w' => e = .returned (.int .i64 (jn : Int)) ∧ Below w2.heap.size w2 w'))
      go_loopw [18, 19] (SfB S s t f N wA g ws0) (fun _ kv _ => (intOf kv).toNat)
      case atStart => exact ⟨s, 0, ws0, rfl, rfl, HS.out.1.1, Int.le_refl _, HW0.out.1, HW0.out.2, by rw [Int.sub_self]; rfl, Int.le_refl _, by have := HS.out.1; omega, fun _ _ => rfl, R, grown_below (Below.refl _ _) _⟩
      case round =>
        obtain ⟨k, fi, ws, rfl, rfl, hk1, hk2, hwl, hw64, hch, hf0, hf1, hlo, R1, hg1⟩ := hrel
        have HK := hide (And.intro hk1 hk2)
        have HWS := hide (And.intro hwl (And.intro hw64 (And.intro hch hlo)))
        have HFI := hide (And.intro hf0 hf1)
        clear hk1 hk2 hwl hw64 hch hlo hf0 hf1
        by_cases hk : 2 ≤ k
        · skip
          have mc := fun i => (XCF.out _ hg1).cell i
          have hkw : IntKind.i64.wrap (k - 1) = k - 1 := IntWalk.i64_in _ (by have := HK.out; have := HS.out.1; omega)
          have RHk := hide (RH1.out k wr hg1)
          cases hm : decide (k ∈ S) with
          | true =>
            rw [hm] at RHk
            have HM := hide (of_decide_eq_true hm)
            clear hm
            go_wp2_with fail
            refine RHk.out.mono ?_
            rintro e w6 ⟨rfl, hb1⟩
            clear mc
            go_wp2_with fail
            go_roundw
            case measure => simp [intOf]; omega
            case rel => exact ⟨k - 1, fi, ws, rfl, rfl, by omega, by have := HK.out; omega, HWS.out.1, HWS.out.2.1, by rw [show (s - (k - 1)).toNat = (s - k).toNat + 1 by have := HK.out; omega, show k - 1 + 1 = k by omega, up_skip HM.out]; exact HWS.out.2.2.1, HFI.out.1, HFI.out.2, HWS.out.2.2.2, R1.below hb1, grown_trans hg1 (grown_below hb1 _)⟩
          | false =>
            rw [hm] at RHk
            have HM := hide (of_decide_eq_false hm)
            clear hm
            have hnb := nB_bd HS.out.1 HS.out.2.1 HS.out.2.2 (sl := k) (by have := HK.out; omega)
            obtain ⟨jn, hjn⟩ : ∃ jn : Nat, nB t f k + 2 = jn := Int.eq_ofNat_of_zero_le (by have := HS.out.2.1; omega)
            have hjl : jn < N := by have := HN.out.1; have := HS.out.2.2; omega
            have LKk := hide (fun w2 => LK.out k HK.out jn hjn w2)
            have HJN := hide (And.intro hjn (And.intro hnb hjl))
            clear hjn hnb
            have hq1 : (jn : Int) < (N : Int) := by omega
            have hcv : IntKind.u64.wrap fi = fi := IntWalk.u64_in _ (by have := HFI.out; have := HS.out.1; omega)
            go_wp2_with fail
            refine RHk.out.mono ?_
            rintro e w6 ⟨rfl, hb1⟩
            clear mc
            have hg2 := grown_trans hg1 (grown_below hb1 (some g))
            have R2 := R1.below hb1
            clear hb1 hg1 R1
            have mc := fun i => (XCF.out _ hg2).cell i
            go_wp2_with fail
            refine (LKk.out _).mono ?_
            rintro e w7 ⟨rfl, hb1⟩
            clear mc
            have hg3 := grown_trans hg2 (grown_below hb1 (some g))
            have R3 := R2.below hb1
            clear hb1 hg2 R2
            have mg := R3.at_ (j := jn) (by rw [HWS.out.1]; exact hjl)
            have zg := fun i => Blk.frozen (w := w7) (g := g) R3 i
            go_wp2_with fail
            have R4 := R3.set_ jn fi
            have hg4 := grown_trans hg3 (grown_set w7 g jn (.int .u64 fi))
            clear mg zg R3 hg3
            have hP : wPut ws (nB t f k + 2) fi = ws.set jn fi := (by rw [HJN.out.1]; exact wPut_at (by rw [HWS.out.1]; exact hjl))
            go_roundw
            case measure => simp [intOf]; omega
            case rel => exact ⟨k - 1, k, ws.set jn fi, rfl, rfl, by omega, by have := HK.out; omega, by rw [List.length_set]; exact HWS.out.1, by rw [← hP]; exact wPut_w64 HWS.out.2.1 ⟨HFI.out.1, by have := HFI.out; have := HS.out.1; omega⟩, by rw [show (s - (k - 1)).toNat = (s - k).toNat + 1 by have := HK.out; omega, show k - 1 + 1 = k by omega, up_take HM.out, ← hP]; exact ch_link HWS.out.2.2.1 HS.out.2.2.1 (by rw [HJN.out.1]; omega) (by rw [HJN.out.1, HWS.out.1]; exact hq1) (fun h9 => by have := (upN_mem _ _ _ _).1 h9; omega), by omega, HK.out.2, fun j hj => by rw [← hP, wGet_put (by rw [HJN.out.1]; omega) (by rw [HJN.out.1, HWS.out.1]; exact hq1), if_neg (by have := HJN.out.2.1; omega)]; exact HWS.out.2.2.2 j hj, R4, hg4⟩
        · skip
          have hk1 : k = 1 := by have := HK.out; omega
          subst hk1
          have hN2 : 2 < N := by have := HN.out.2.2; have := HN.out.1; have := HS.out.2.1; omega
          have hN2i : (2 : Int) < (N : Int) := by omega
          have hcv : IntKind.u64.wrap fi = fi := IntWalk.u64_in _ (by have := HFI.out; have := HS.out.1; omega)
          have mg := R1.at_ (j := 2) (by rw [HWS.out.1]; exact hN2)
          have zg := fun i => Blk.frozen (w := wr) (g := g) R1 i
          go_upto_block 4 with fail
          have R2 := R1.set_ 2 fi
          have hg2 := grown_trans hg1 (grown_set wr g 2 (.int .u64 fi))
          clear mg zg hg1 R1
          have hP : wPut ws 2 fi = ws.set 2 fi := wPut_at (j := 2) (by rw [HWS.out.1]; exact hN2)
          have hp9 : ∀ b, wGet (ws.set 2 fi) b = if b = 2 then fi else wGet ws b := fun b => by rw [← hP]; exact wGet_put (by omega) (by rw [HWS.out.1]; exact hN2i)
          have HNB : ∀ y, 0 ≤ y → nxt (ws.set 2 fi) t f y = nxt ws t f y := fun y hy => by unfold nxt; rw [hp9, if_neg (by have := nB_ge (t := t) HS.out.2.2.1 hy; have := HS.out.2.1; omega)]
          have HF := hide (show FreeAre (ws.set 2 fi) s t f (upN S (s - 1).toNat 2) from ⟨by rw [hp9, if_pos rfl, show fi % 65536 = fi by have := HFI.out; have := HS.out.1; omega]; exact Ch.congr HWS.out.2.2.1 (fun y hy => (HNB y (by have := (upN_mem _ _ _ _).1 hy; omega)).symm), upN_nodup _ _ _, fun y hy => by have := (upN_mem _ _ _ _).1 hy; omega⟩)
          have HW1 := hide (show (ws.set 2 fi).length = N ∧ AllW64 (ws.set 2 fi) from ⟨by rw [List.length_set]; exact HWS.out.1, by rw [← hP]; exact wPut_w64 HWS.out.2.1 ⟨HFI.out.1, by have := HFI.out; have := HS.out.1; omega⟩⟩)
          have hl0 : 0 < (begL s t f).length := by rw [begL_len]; have := HN.out.2.2; have := HS.out.2.1; omega
          have HE0 := hide (show wGet (ws.set 2 fi) 0 = ep from by rw [hp9, if_neg (by omega), HWS.out.2.2.2 0 (by have := HS.out.2.1; omega), ← hws.out, ← wPut_at (j := 0) hl0]; exact (wGet_put (by omega) (by omega)).trans (if_pos rfl))
          have HH0 := hide (show ∀ j : Nat, (j : Int) < 2 * t → wGet (ws.set 2 fi) (3 + t + j) = 0 from fun j hj => by rw [hp9, if_neg (by have := HS.out.2.1; omega), HWS.out.2.2.2 _ (by omega), ← hws.out, ← wPut_at (j := 0) hl0]; refine (wGet_put (by omega) (by omega)).trans ?_; rw [if_neg (by have := HS.out.2.1; omega)]; exact beg_low HS.out.1 HS.out.2.1 HS.out.2.2 (by have := HS.out.2.1; omega) (by omega))
          clear hP hp9 HNB hl0 HWS HFI HK hk hN2 hN2i hcv
          generalize ws.set 2 fi = ws1 at *
          generalize wr.setCell ⟨g, 2, none⟩ (.int .u64 fi) = wb at *
          go_cut [20] from 145 to 168 (fun _ wx => ∃ ws : List Int, SfD hz s t f ep N (upN S (s - 1).toNat 2) ws ∧ RefOk wx g ws ∧ wA.grownBy wx (some g))
          case first =>
              go_wp2_with fail
              go_loopw [20] (SfC hz s t f ep N wA g (upN S (s - 1).toNat 2)) (fun iv _ => nH - (intOf iv).toNat)
              case atStart => exact ⟨0, ws1, rfl, Nat.zero_le _, by have := HS.out.2.1; omega, HW1.out.1, HW1.out.2, HF.out, HE0.out, fun j hj => by rw [if_neg (by omega)]; exact HH0.out j hj, R2, hg2⟩
              case round =>
                clear HF HW1 HE0 HH0 R2 hg2
                obtain ⟨i3, ws, rfl, hi3, hi3t, hwl, hw64, hfr, he0, hhz, R1, hg1⟩ := hrel
                have HWS := hide (And.intro hwl (And.intro hw64 (And.intro hfr (And.intro he0 hhz))))
                have HI3 := hide (And.intro hi3 hi3t)
                clear hwl hw64 hfr he0 hhz hi3 hi3t
                have mc := fun i => (XCF.out _ hg1).cell i
                have h2t : IntKind.i64.wrap (2 * t) = 2 * t := IntWalk.i64_in _ (by have := HS.out.2.1; omega)
                by_cases hl1 : i3 < nH
                · skip
                  have hl1i : (i3 : Int) < (nH : Int) := by omega
                  by_cases hl2 : (i3 : Int) < 2 * t
                  · skip
                    have ZF := hide (fun (w9 : World) (h : wA.grownBy w9 (some g)) => ((HR.out.2.2.below (below_grown B0 h (by have := hg0.out; omega) B0.size)).more (Nat.le_trans B0.size h.size)).word hl1)
                    obtain ⟨aH, eH, hiH, _⟩ := ZF.out wr hg1
                    have WZ := HW.out.2.2 hz[i3] (List.getElem_mem _)
                    generalize hZI : hz[i3] = z at *
                    have HZI := hide hZI
                    clear hZI
                    subst eH
                    have ZF2 := hide (fun (w9 : World) (h : wA.grownBy w9 (some g)) => (show w9.cell? (aH.add i3) = some (.int .i64 z) from by obtain ⟨a9, e9, _, z9⟩ := ZF.out w9 h; injection e9 with e9; subst e9; rw [HZI.out] at z9; exact z9))
                    have RMk := hide (fun w2 => rhm_any 5 z w2 ⟨by decide, by decide⟩ WZ)
                    have HZc := hide (fun w2 => (by have h9 := rhaz19_any s t f l p 0 0 w2 HS.out.2.1 ⟨by omega, by omega⟩ ⟨by omega, by omega⟩; rw [show 3 + t + 2 * 0 + 0 = 3 + t by omega] at h9; exact h9 : Calls Tryd.prog 16 #[.agg #[.int .i64 s, .int .i64 t, .int .i64 f, .int .i64 l, .int .i64 p], .int .i64 0, .int .i64 0] w2 fun e w' => e = .returned (.int .i64 (3 + t)) ∧ Below w2.heap.size w2 w'))
                    obtain ⟨jn, hjn⟩ : ∃ jn : Nat, 3 + t + (i3 : Int) = jn := Int.eq_ofNat_of_zero_le (by have := HS.out.2.1; omega)
                    have hjl : jn < N := by have := HN.out.1; have := HN.out.2.2; omega
                    have hjli : (jn : Int) < (N : Int) := by omega
                    have hadd : IntKind.i64.wrap (3 + t + (i3 : Int)) = (jn : Int) := by rw [IntWalk.i64_in _ (by have := HS.out.2.1; omega)]; exact hjn
                    have HJ := hide hjn
                    clear hjn WZ
                    have zH := ZF2.out wr hg1
                    skip
                    go_wp2_with fail
                    clear mc zH
                    replace R1 := Blk.drew R1
                    replace hg1 := grown_trans hg1 (grown_below ((Below.refl wr.heap.size wr).drew) (some g))
                    refine wp_region_heldZ [11] (fun w' => w'.cell? ⟨w.heap.size, 0, none⟩ = some (.int .i64 s) ∧ w'.cell? ⟨w.heap.size, 1, none⟩ = some (.int .i64 t) ∧ w'.cell? ⟨w.heap.size, 2, none⟩ = some (.int .i64 f) ∧ w'.cell? ⟨w.heap.size, 3, none⟩ = some (.int .i64 l) ∧ w'.cell? ⟨w.heap.size, 4, none⟩ = some (.int .i64 p) ∧ w'.cell? (aH.add i3) = some (.int .i64 z)) (by as_aux_lemma => kernel_rfl) (by exact ⟨(XCF.out _ hg1).cell 0, (XCF.out _ hg1).cell 1, (XCF.out _ hg1).cell 2, (XCF.out _ hg1).cell 3, (XCF.out _ hg1).cell 4, ZF2.out _ hg1⟩) (fun hHeld => ?_)
                    generalize wr.drew = wd at *
                    refine' wpAnyZ_takeA (i := 0) (v := ?_) (opAt rfl) (by as_aux_lemma => kernel_rfl) (by as_aux_lemma => kernel_rfl) (by as_aux_lemma => kernel_rfl) (by as_aux_lemma => kernel_rfl) (fun _ _ _ h => h) (by assumption) (by rfl) (fun w hSw => ?_) ?_
                    rotate_left
                    · (try dsimp only at hSw); go_simp; (try with_reducible rfl)
                    try simp only [Act.put, List.setIfInBounds_toArray, List.set_cons_zero, List.set_cons_succ]
                    refine' wpAnyZ_takeA (i := 1) (v := ?_) (opAt rfl) (by as_aux_lemma => kernel_rfl) (by as_aux_lemma => kernel_rfl) (by as_aux_lemma => kernel_rfl) (by as_aux_lemma => kernel_rfl) (fun _ _ _ h => h) (by assumption) (by rfl) (fun w hSw => ?_) ?_
                    rotate_left
                    · (try dsimp only at hSw); go_simp; (try with_reducible rfl)
                    try simp only [Act.put, List.setIfInBounds_toArray, List.set_cons_zero, List.set_cons_succ]
                    refine' wpAnyZ_takeA (i := 3) (v := ?_) (opAt rfl) (by as_aux_lemma => kernel_rfl) (by as_aux_lemma => kernel_rfl) (by as_aux_lemma => kernel_rfl) (by as_aux_lemma => kernel_rfl) (fun _ _ _ h => h) (by assumption) (by rfl) (fun w hSw => ?_) ?_
                    rotate_left
                    · (try dsimp only at hSw); go_simp; (try with_reducible rfl)
                    try simp only [Act.put, List.setIfInBounds_toArray, List.set_cons_zero, List.set_cons_succ]
                    refine' wpAnyZ_takeA (i := 5) (v := ?_) (opAt rfl) (by as_aux_lemma => kernel_rfl) (by as_aux_lemma => kernel_rfl) (by as_aux_lemma => kernel_rfl) (by as_aux_lemma => kernel_rfl) (fun _ _ _ h => h) (by assumption) (by rfl) (fun w hSw => ?_) ?_
                    rotate_left
                    · (try dsimp only at hSw); go_simp; (try with_reducible rfl)
                    try simp only [Act.put, List.setIfInBounds_toArray, List.set_cons_zero, List.set_cons_succ]
                    refine' wpAnyZ_takeA (i := 6) (v := ?_) (opAt rfl) (by as_aux_lemma => kernel_rfl) (by as_aux_lemma => kernel_rfl) (by as_aux_lemma => kernel_rfl) (by as_aux_lemma => kernel_rfl) (fun _ _ _ h => h) (by assumption) (by rfl) (fun w hSw => ?_) ?_
                    rotate_left
                    · (try dsimp only at hSw); go_simp; (try with_reducible rfl)
                    try simp only [Act.put, List.setIfInBounds_toArray, List.set_cons_zero, List.set_cons_succ]
                    refine' wpAnyZ_takeA (i := 7) (v := ?_) (opAt rfl) (by as_aux_lemma => kernel_rfl) (by as_aux_lemma => kernel_rfl) (by as_aux_lemma => kernel_rfl) (by as_aux_lemma => kernel_rfl) (fun _ _ _ h => h) (by assumption) (by rfl) (fun w hSw => ?_) ?_
                    rotate_left
                    · (try dsimp only at hSw); go_simp; (try with_reducible rfl)
                    try simp only [Act.put, List.setIfInBounds_toArray, List.set_cons_zero, List.set_cons_succ]
                    refine' wpAnyZ_takeA (i := 8) (v := ?_) (opAt rfl) (by as_aux_lemma => kernel_rfl) (by as_aux_lemma => kernel_rfl) (by as_aux_lemma => kernel_rfl) (by as_aux_lemma => kernel_rfl) (fun _ _ _ h => h) (by assumption) (by rfl) (fun w hSw => ?_) ?_
                    rotate_left
                    · (try dsimp only at hSw); go_simp; (try with_reducible rfl)
                    try simp only [Act.put, List.setIfInBounds_toArray, List.set_cons_zero, List.set_cons_succ]
                    refine wpAnyZ_ready (rs := [2]) (by as_aux_lemma => kernel_rfl) (by simp) ?_
                    refine AllReadyZ.cons (opAt rfl) (fun K hK => ?_) ?_
                    · skip
                      go_simp
                      refine (HZc.out _).mono ?_
                      rintro e w6 ⟨rfl, hb1⟩
                      replace R1 := RefOk.below R1 hb1
                      replace hg1 := grown_trans hg1 (grown_below hb1 (some g))
                      clear hb1
                      try go_wp2_with fail
                      refine hK.out _ _ (by exact ⟨(XCF.out _ hg1).cell 0, (XCF.out _ hg1).cell 1, (XCF.out _ hg1).cell 2, (XCF.out _ hg1).cell 3, (XCF.out _ hg1).cell 4, ZF2.out _ hg1⟩) (fun hHeld => ?_)
                      clear hK K
                      try simp only [Act.put, List.setIfInBounds_toArray, List.set_cons_zero, List.set_cons_succ]
                      refine' wpAnyZ_takeA (i := 4) (v := ?_) (opAt rfl) (by as_aux_lemma => kernel_rfl) (by as_aux_lemma => kernel_rfl) (by as_aux_lemma => kernel_rfl) (by as_aux_lemma => kernel_rfl) (fun _ _ _ h => h) (by assumption) (by rfl) (fun w hSw => ?_) ?_
                      rotate_left
                      · (try dsimp only at hSw); go_simp; (try with_reducible rfl)
                      try simp only [Act.put, List.setIfInBounds_toArray, List.set_cons_zero, List.set_cons_succ]
                      refine wpAnyZ_ready (rs := [9]) (by as_aux_lemma => kernel_rfl) (by simp) ?_
                      refine AllReadyZ.cons (opAt rfl) (fun K hK => ?_) ?_
                      · skip
                        go_simp
                        refine (RMk.out _).mono ?_
                        rintro e w9 ⟨rfl, rfl⟩
                        try go_wp2_with fail
                        refine hK.out _ _ (by exact ⟨(XCF.out _ hg1).cell 0, (XCF.out _ hg1).cell 1, (XCF.out _ hg1).cell 2, (XCF.out _ hg1).cell 3, (XCF.out _ hg1).cell 4, ZF2.out _ hg1⟩) (fun hHeld => ?_)
                        clear hK K
                        try simp only [Act.put, List.setIfInBounds_toArray, List.set_cons_zero, List.set_cons_succ]
                        refine' wpAnyZ_takeA (i := 10) (v := ?_) (opAt rfl) (by as_aux_lemma => kernel_rfl) (by as_aux_lemma => kernel_rfl) (by as_aux_lemma => kernel_rfl) (by as_aux_lemma => kernel_rfl) (fun _ _ _ h => h) (by assumption) (by rfl) (fun w hSw => ?_) ?_
                        rotate_left
                        · (try dsimp only at hSw); go_simp; (try with_reducible rfl)
                        try simp only [Act.put, List.setIfInBounds_toArray, List.set_cons_zero, List.set_cons_succ]
                        refine wpAnyZ_ready (rs := [11]) (by as_aux_lemma => kernel_rfl) (by simp) ?_
                        refine AllReadyZ.last (opAt rfl) (by as_aux_lemma => kernel_rfl) (fun K hK => ?_) ?_
                        · skip
                          have mg := RefOk.at_ R1 (j := jn) (by rw [HWS.out.1]; exact hjl)
                          have zg := fun i => Blk.frozen (w := w6) (g := g) R1 i
                          go_simp
                          refine hK.out _ _ ?_
                          clear hK K
                          try simp only [Act.put, List.setIfInBounds_toArray, List.set_cons_zero, List.set_cons_succ]
                          refine wpAnyZ_done (by as_aux_lemma => kernel_rfl) ?_ _
                          have R2 := RefOk.set_ R1 jn (hmk 5 z)
                          have hg2 := grown_trans hg1 (grown_set w6 g jn (.int .u64 (hmk 5 z)))
                          clear mg zg R1 hg1 hHeld
                          have hP : wPut ws jn (hmk 5 z) = ws.set jn (hmk 5 z) := wPut_at (by rw [HWS.out.1]; exact hjl)
                          have hp9 : ∀ b, wGet (ws.set jn (hmk 5 z)) b = if b = jn then hmk 5 z else wGet ws b := fun b => by rw [← hP]; exact wGet_put (by omega) (by rw [HWS.out.1]; exact hjli)
                          go_wp2_with fail
                          go_roundw
                          case measure => simp [intOf]; omega
                          case rel => exact ⟨i3 + 1, ws.set jn (hmk 5 z), by go_num, by have := HL.out; omega, by omega, by rw [List.length_set]; exact HWS.out.1, by rw [← hP]; exact wPut_w64 HWS.out.2.1 (hmk_bound _ _), by rw [← hP]; exact HWS.out.2.2.1.low HS.out.2.2.1 (by omega) (by rw [HWS.out.1]; exact hjli) (by have := HJ.out; have := HS.out.2.1; omega) (by have := HJ.out; omega), by rw [hp9, if_neg (by have := HJ.out; have := HS.out.2.1; omega)]; exact HWS.out.2.2.2.1, hz_next hiH HZI.out HJ.out hp9 HWS.out.2.2.2.2, R2, hg2⟩
                        exact AllReadyZ.nil
                      exact AllReadyZ.nil
                    exact AllReadyZ.nil
                  · skip
                    have hl2i : ¬ (i3 : Int) < 2 * t := hl2
                    have HEX := hide (show ∀ j : Nat, (j : Int) < 2 * t → wGet ws (3 + t + j) = if j < hz.length then hmk 5 (hz.getD j 0) else 0 from fun j hj => by rw [HWS.out.2.2.2.2 j hj]; have h7 := HL.out.2.2; have h6 := HI3.out; by_cases h9 : j < i3 <;> by_cases h8 : j < hz.length <;> simp [h9, h8] <;> omega)
                    go_wp2_with fail
                    go_meet
                    exact ⟨ws, ⟨HWS.out.1, HWS.out.2.1, HWS.out.2.2.1, HWS.out.2.2.2.1, HEX.out⟩, R1, hg1⟩
                · skip
                  have hl1i : ¬ (i3 : Int) < (nH : Int) := by omega
                  have HEX := hide (show ∀ j : Nat, (j : Int) < 2 * t → wGet ws (3 + t + j) = if j < hz.length then hmk 5 (hz.getD j 0) else 0 from fun j hj => by rw [HWS.out.2.2.2.2 j hj]; have h7 := HL.out.2.2; have h6 := HI3.out; by_cases h9 : j < i3 <;> by_cases h8 : j < hz.length <;> simp [h9, h8] <;> omega)
                  go_wp2_with fail
                  go_meet
                  exact ⟨ws, ⟨HWS.out.1, HWS.out.2.1, HWS.out.2.2.1, HWS.out.2.2.2.1, HEX.out⟩, R1, hg1⟩
          case rest =>
            letI : Inhabited GhT := ⟨⟨g⟩⟩
            obtain ⟨ws, hsd, R1, hg1⟩ := hcut
            obtain ⟨e1, e2⟩ := HN1.out
            subst e1 e2
            clear HN1
            have OK := hide (sf_ok (kp := kept.toNat) (l := l) (p := p) HS.out.1 HS.out.2.1 HS.out.2.2 HN.out.1 HEP.out (by have := HB.out.1; have := HL.out.1; omega) (by have := HB.out.2.2; have := HL.out.1; have := HL.out.2.1; omega) HW.out.2.1 HBD.out.1 HBD.out.2 hsd)
            clear hsd
            have xc1 := XCF.out wc hg1
            have bx1 := Blk.grown bx hg1 (by have := HGX.out.1; simp; omega)
            have q1 := o1.kept hg1 (own_ne_row o1 (by have := HGX.out.1; omega))
            have q2 := o2.kept hg1 (own_ne_row o2 (by have := HGX.out.1; omega))
            have B1 := below_grown B0 hg1 (by have := hg0.out; omega) B0.size
            have HGC := hide (Nat.le_trans HGW.out hg1.size)
            generalize hR0 : rL S E kept.toNat S.length = R0 at *
            replace hR0 := hide hR0
            generalize hK0 : kL S kept.toNat S.length = K0 at *
            replace hK0 := hide hK0
            generalize hF0 : upN S (s - 1).toNat 2 = F0 at *
            replace hF0 := hide hF0
            generalize hHZ : hzW hz (2 * t).toNat = HZ0 at *
            replace hHZ := hide hHZ
            have LN := hide (fun w2 (h : Below w.heap.size w w2) => new_yes s t f l p w2 (HT.out.below h) HC.out)
            have SN := hide (fun w2 (h1 : Reads w2 w2.heap.size 2 A1 R0.length (rec2 R0)) (h2 : Sl w2 w2.heap.size (.slice A2 K0.length c2) K0) => snew_yes s t f l p (laySize s t f) A1 R0.length c1 R0 (.slice A2 K0.length c2) K0 w2 (by have h9 := OK.out.hR; exact Nat.le_trans h9 (by decide)) (by have h9 := OK.out.hK; exact Nat.le_trans h9 (by decide)) h1 h2 (fun w3 => size_any s t f l p w3 HS.out.1 HS.out.2.1 HS.out.2.2) (by have := HN.out.2.2; have := HS.out.2.1; omega))
            go_upto_region 29 with fail
            go_cut [21] from 169 to 172 (fun s21 wx => ∃ (gs : Nat) (cs : List Value), s21 = .pointer (some ⟨gs, 0, none⟩) ∧ cs.length = 22 ∧ cs.toArray.all (·.oneCell') = true ∧ Blk wx gs 51 cs.toArray ∧ SwRun.St (SwRun.mk s t f l p ep R0 K0 HZ0 ws F0) 0 ws 1 wx (.agg cs.toArray) ∧ RefOk wx g ws ∧ Blk wx w.heap.size 36 #[.int .i64 s, .int .i64 t, .int .i64 f, .int .i64 l, .int .i64 p] ∧ Below w.heap.size w wx ∧ g ≠ gs ∧ w.heap.size < gs)
            case first =>
              replace xc1 := xc1.drew
              replace bx1 := bx1.drew
              replace q1 := q1.drew
              replace q2 := q2.drew
              replace R1 := Blk.drew R1
              replace B1 := B1.drew
              replace HGC := hide (show gx + 1 ≤ wc.drew.heap.size from HGC.out)
              refine wp_region_heldZ [5] (fun w' => w'.cell? ⟨w.heap.size, 0, none⟩ = some (.int .i64 s) ∧ w'.cell? ⟨w.heap.size, 1, none⟩ = some (.int .i64 t) ∧ w'.cell? ⟨w.heap.size, 2, none⟩ = some (.int .i64 f) ∧ w'.cell? ⟨w.heap.size, 3, none⟩ = some (.int .i64 l) ∧ w'.cell? ⟨w.heap.size, 4, none⟩ = some (.int .i64 p) ∧ w'.cell? ⟨gx, 0, none⟩ = some (.slice A1 R0.length c1) ∧ w'.cell? ⟨gx, 1, none⟩ = some (.slice A2 K0.length c2)) (by as_aux_lemma => kernel_rfl) (by exact ⟨xc1.cell 0, xc1.cell 1, xc1.cell 2, xc1.cell 3, xc1.cell 4, bx1.cell 0, bx1.cell 1⟩) (fun hHeld => ?_)
              generalize wc.drew = wd at *
              refine' wpAnyZ_takeA (i := 0) (v := ?_) (opAt rfl) (by as_aux_lemma => kernel_rfl) (by as_aux_lemma => kernel_rfl) (by as_aux_lemma => kernel_rfl) (by as_aux_lemma => kernel_rfl) (fun _ _ _ h => h) (by assumption) (by rfl) (fun w hSw => ?_) ?_
              rotate_left
              · (try dsimp only at hSw); go_simp; (try with_reducible rfl)
              try simp only [Act.put, List.setIfInBounds_toArray, List.set_cons_zero, List.set_cons_succ]
              refine' wpAnyZ_takeA (i := 2) (v := ?_) (opAt rfl) (by as_aux_lemma => kernel_rfl) (by as_aux_lemma => kernel_rfl) (by as_aux_lemma => kernel_rfl) (by as_aux_lemma => kernel_rfl) (fun _ _ _ h => h) (by assumption) (by rfl) (fun w hSw => ?_) ?_
              rotate_left
              · (try dsimp only at hSw); go_simp; (try with_reducible rfl)
              try simp only [Act.put, List.setIfInBounds_toArray, List.set_cons_zero, List.set_cons_succ]
              refine wpAnyZ_ready (rs := [1, 4]) (by as_aux_lemma => kernel_rfl) (by simp) ?_
              refine AllReadyZ.cons (opAt rfl) (fun K hK => ?_) ?_
              · skip
                go_simp
                refine (LN.out _ B1).mono ?_
                rintro e w3 ⟨rfl, hb1⟩
                replace xc1 := xc1.below hb1 xc1.lt
                replace bx1 := bx1.below hb1 bx1.lt
                replace q1 := own_below q1 hb1
                replace q2 := own_below q2 hb1
                replace R1 := RefOk.below R1 hb1
                replace B1 := B1.trans (hb1.mono B1.size)
                replace HGC := hide (Nat.le_trans HGC.out hb1.size)
                clear hb1
                try go_wp2_with fail
                refine hK.out _ _ (by exact ⟨xc1.cell 0, xc1.cell 1, xc1.cell 2, xc1.cell 3, xc1.cell 4, bx1.cell 0, bx1.cell 1⟩) (fun hHeld => ?_)
                clear hK K
                try simp only [Act.put, List.setIfInBounds_toArray, List.set_cons_zero, List.set_cons_succ]
                refine wpAnyZ_ready (rs := [3, 4]) (by as_aux_lemma => kernel_rfl) (by simp) ?_
                refine AllReadyZ.cons (opAt rfl) (fun K hK => ?_) ?_
                · skip
                  go_simp
                  refine (SN.out _ (Reads.of_own q1) ((Tr.of_own q2 (show g < gx + 1 by have := HGX.out.1; omega) HGC.out).sl)).mono ?_
                  rintro e w4 ⟨⟨A3, c3, A4, c4, rfl, r1, r2⟩, hb1⟩
                  have HGG : ghB < w3.heap.size := (show g < w3.heap.size by have := HGC.out; have := HGX.out.1; omega)
                  have t1 : Tr w4 31 2 (.slice A3 R0.length c3) R0.length (rec2 R0) := Tr.of_own r1 HGG hb1.size
                  have t2 : Tr w4 29 1 (.slice A4 K0.length c4) K0.length (ints .u64 K0) := Tr.of_own r2 HGG hb1.size
                  clear r1 r2 HGG
                  replace xc1 := xc1.below hb1 xc1.lt
                  replace bx1 := bx1.below hb1 bx1.lt
                  replace q1 := own_below q1 hb1
                  replace q2 := own_below q2 hb1
                  replace R1 := RefOk.below R1 hb1
                  replace B1 := B1.trans (hb1.mono B1.size)
                  replace HGC := hide (Nat.le_trans HGC.out hb1.size)
                  clear hb1
                  try go_wp2_with fail
                  refine hK.out _ _ (by exact ⟨xc1.cell 0, xc1.cell 1, xc1.cell 2, xc1.cell 3, xc1.cell 4, bx1.cell 0, bx1.cell 1⟩) (fun hHeld => ?_)
                  clear hK K
                  try simp only [Act.put, List.setIfInBounds_toArray, List.set_cons_zero, List.set_cons_succ]
                  refine wpAnyZ_ready (rs := [4]) (by as_aux_lemma => kernel_rfl) (by simp) ?_
                  refine AllReadyZ.cons (opAt rfl) (fun K hK => ?_) ?_
                  · skip
                    go_simp
                    have bv := Blk.new w4 51 #[.slice none 0 0, .slice none 0 0, .int .i64 0, .int .i64 0, .int .i64 0, .int .i64 0, .int .i64 0, .int .i64 0, .int .u64 0, .slice none 0 0, .slice none 0 0, .int .i64 0, .int .i64 0, .int .i64 0, .int .i64 0, .int .i64 0, .int .i64 0, .int .i64 0, .int .u64 0, .int .i64 0, .slice none 0 0, .int .i64 0]
                    have HGS := hide (show gx + 1 ≤ w4.heap.size from HGC.out)
                    replace xc1 := xc1.alloc (.cells #[.slice none 0 0, .slice none 0 0, .int .i64 0, .int .i64 0, .int .i64 0, .int .i64 0, .int .i64 0, .int .i64 0, .int .u64 0, .slice none 0 0, .slice none 0 0, .int .i64 0, .int .i64 0, .int .i64 0, .int .i64 0, .int .i64 0, .int .i64 0, .int .i64 0, .int .u64 0, .int .i64 0, .slice none 0 0, .int .i64 0] 51)
                    replace bx1 := bx1.alloc (.cells #[.slice none 0 0, .slice none 0 0, .int .i64 0, .int .i64 0, .int .i64 0, .int .i64 0, .int .i64 0, .int .i64 0, .int .u64 0, .slice none 0 0, .slice none 0 0, .int .i64 0, .int .i64 0, .int .i64 0, .int .i64 0, .int .i64 0, .int .i64 0, .int .i64 0, .int .u64 0, .int .i64 0, .slice none 0 0, .int .i64 0] 51)
                    replace q1 := q1.alloc (.cells #[.slice none 0 0, .slice none 0 0, .int .i64 0, .int .i64 0, .int .i64 0, .int .i64 0, .int .i64 0, .int .i64 0, .int .u64 0, .slice none 0 0, .slice none 0 0, .int .i64 0, .int .i64 0, .int .i64 0, .int .i64 0, .int .i64 0, .int .i64 0, .int .i64 0, .int .u64 0, .int .i64 0, .slice none 0 0, .int .i64 0] 51)
                    replace q2 := q2.alloc (.cells #[.slice none 0 0, .slice none 0 0, .int .i64 0, .int .i64 0, .int .i64 0, .int .i64 0, .int .i64 0, .int .i64 0, .int .u64 0, .slice none 0 0, .slice none 0 0, .int .i64 0, .int .i64 0, .int .i64 0, .int .i64 0, .int .i64 0, .int .i64 0, .int .i64 0, .int .u64 0, .int .i64 0, .slice none 0 0, .int .i64 0] 51)
                    replace R1 := Blk.alloc R1 (.cells #[.slice none 0 0, .slice none 0 0, .int .i64 0, .int .i64 0, .int .i64 0, .int .i64 0, .int .i64 0, .int .i64 0, .int .u64 0, .slice none 0 0, .slice none 0 0, .int .i64 0, .int .i64 0, .int .i64 0, .int .i64 0, .int .i64 0, .int .i64 0, .int .i64 0, .int .u64 0, .int .i64 0, .slice none 0 0, .int .i64 0] 51)
                    replace B1 := B1.alloc B1.size (.cells #[.slice none 0 0, .slice none 0 0, .int .i64 0, .int .i64 0, .int .i64 0, .int .i64 0, .int .i64 0, .int .i64 0, .int .u64 0, .slice none 0 0, .slice none 0 0, .int .i64 0, .int .i64 0, .int .i64 0, .int .i64 0, .int .i64 0, .int .i64 0, .int .i64 0, .int .u64 0, .int .i64 0, .slice none 0 0, .int .i64 0] 51)
                    replace HGC := hide (show gx + 1 ≤ (w4.alloc (.cells #[.slice none 0 0, .slice none 0 0, .int .i64 0, .int .i64 0, .int .i64 0, .int .i64 0, .int .i64 0, .int .i64 0, .int .u64 0, .slice none 0 0, .slice none 0 0, .int .i64 0, .int .i64 0, .int .i64 0, .int .i64 0, .int .i64 0, .int .i64 0, .int .i64 0, .int .u64 0, .int .i64 0, .slice none 0 0, .int .i64 0] 51)).heap.size by rw [World.size_alloc]; exact Nat.le_succ_of_le HGC.out)
                    replace t1 := t1.alloc (.cells #[.slice none 0 0, .slice none 0 0, .int .i64 0, .int .i64 0, .int .i64 0, .int .i64 0, .int .i64 0, .int .i64 0, .int .u64 0, .slice none 0 0, .slice none 0 0, .int .i64 0, .int .i64 0, .int .i64 0, .int .i64 0, .int .i64 0, .int .i64 0, .int .i64 0, .int .u64 0, .int .i64 0, .slice none 0 0, .int .i64 0] 51)
                    replace t2 := t2.alloc (.cells #[.slice none 0 0, .slice none 0 0, .int .i64 0, .int .i64 0, .int .i64 0, .int .i64 0, .int .i64 0, .int .i64 0, .int .u64 0, .slice none 0 0, .slice none 0 0, .int .i64 0, .int .i64 0, .int .i64 0, .int .i64 0, .int .i64 0, .int .i64 0, .int .i64 0, .int .u64 0, .int .i64 0, .slice none 0 0, .int .i64 0] 51)
                    generalize w4.alloc (.cells #[.slice none 0 0, .slice none 0 0, .int .i64 0, .int .i64 0, .int .i64 0, .int .i64 0, .int .i64 0, .int .i64 0, .int .u64 0, .slice none 0 0, .slice none 0 0, .int .i64 0, .int .i64 0, .int .i64 0, .int .i64 0, .int .i64 0, .int .i64 0, .int .i64 0, .int .u64 0, .int .i64 0, .slice none 0 0, .int .i64 0] 51) = w6 at *
                    generalize w4.heap.size = gs at *
                    refine hK.out _ _ (by exact ⟨xc1.cell 0, xc1.cell 1, xc1.cell 2, xc1.cell 3, xc1.cell 4, bx1.cell 0, bx1.cell 1⟩) (fun hHeld => ?_)
                    clear hK K
                    try simp only [Act.put, List.setIfInBounds_toArray, List.set_cons_zero, List.set_cons_succ]
                    refine wpAnyZ_ready (rs := [5]) (by as_aux_lemma => kernel_rfl) (by simp) ?_
                    refine AllReadyZ.last (opAt rfl) (by as_aux_lemma => kernel_rfl) (fun K hK => ?_) ?_
                    · skip
                      refine wp_store_mid 51 (.tmp 21) (.tmp 172) rfl gs 0 #[.slice A3 R0.length c3, .slice A4 K0.length c4, .int .i64 s, .int .i64 t, .int .i64 f, .int .i64 l, .int .i64 p, .int .i64 1, .int .u64 0, .slice none 0 0, .slice none 0 0, .int .i64 0, .int .i64 0, .int .i64 0, .int .i64 0, .int .i64 0, .int .i64 0, .int .i64 0, .int .u64 0, .int .i64 0, .slice none 0 0, .int .i64 0] (by rfl) (by rfl) (bv.there rfl) (by as_aux_lemma => kernel_rfl) (by as_aux_lemma => kernel_rfl) ?_
                      refine hK.out _ _ ?_
                      clear hK K
                      try simp only [Act.put, List.setIfInBounds_toArray, List.set_cons_zero, List.set_cons_succ]
                      refine wpAnyZ_done (by as_aux_lemma => kernel_rfl) ?_ _
                      have hgg : g ≠ gs := by have := HGS.out; have := HGX.out.1; omega
                      have hwg : w.heap.size < gs := by have := HGS.out; have := HGX.out.1; have := hg0.out; omega
                      have st : SwV (w6.setCells gs 0 [.slice A3 R0.length c3, .slice A4 K0.length c4, .int .i64 s, .int .i64 t, .int .i64 f, .int .i64 l, .int .i64 p, .int .i64 1, .int .u64 0, .slice none 0 0, .slice none 0 0, .int .i64 0, .int .i64 0, .int .i64 0, .int .i64 0, .int .i64 0, .int .i64 0, .int .i64 0, .int .u64 0, .int .i64 0, .slice none 0 0, .int .i64 0]) s t f l p 1 0 R0 K0 [] [] 0 0 0 0 0 0 0 0 0 [] 0 (.agg #[.slice A3 R0.length c3, .slice A4 K0.length c4, .int .i64 s, .int .i64 t, .int .i64 f, .int .i64 l, .int .i64 p, .int .i64 1, .int .u64 0, .slice none 0 0, .slice none 0 0, .int .i64 0, .int .i64 0, .int .i64 0, .int .i64 0, .int .i64 0, .int .i64 0, .int .i64 0, .int .u64 0, .int .i64 0, .slice none 0 0, .int .i64 0]) := SwV.put ⟨A3, c3, A4, c4, none, 0, none, 0, none, 0, rfl, t1, t2, Tr.nil _ _ _ t1.gh, Tr.nil _ _ _ t1.gh, Tr.nil _ _ _ t1.gh⟩ bv [.slice A3 R0.length c3, .slice A4 K0.length c4, .int .i64 s, .int .i64 t, .int .i64 f, .int .i64 l, .int .i64 p, .int .i64 1, .int .u64 0, .slice none 0 0, .slice none 0 0, .int .i64 0, .int .i64 0, .int .i64 0, .int .i64 0, .int .i64 0, .int .i64 0, .int .i64 0, .int .u64 0, .int .i64 0, .slice none 0 0, .int .i64 0]
                      have bw : Blk (w6.setCells gs 0 [.slice A3 R0.length c3, .slice A4 K0.length c4, .int .i64 s, .int .i64 t, .int .i64 f, .int .i64 l, .int .i64 p, .int .i64 1, .int .u64 0, .slice none 0 0, .slice none 0 0, .int .i64 0, .int .i64 0, .int .i64 0, .int .i64 0, .int .i64 0, .int .i64 0, .int .i64 0, .int .u64 0, .int .i64 0, .slice none 0 0, .int .i64 0]) gs 51 ([.slice A3 R0.length c3, .slice A4 K0.length c4, .int .i64 s, .int .i64 t, .int .i64 f, .int .i64 l, .int .i64 p, .int .i64 1, .int .u64 0, .slice none 0 0, .slice none 0 0, .int .i64 0, .int .i64 0, .int .i64 0, .int .i64 0, .int .i64 0, .int .i64 0, .int .i64 0, .int .u64 0, .int .i64 0, .slice none 0 0, .int .i64 0] : List Value).toArray := Blk.put_all (cs0 := [.slice none 0 0, .slice none 0 0, .int .i64 0, .int .i64 0, .int .i64 0, .int .i64 0, .int .i64 0, .int .i64 0, .int .u64 0, .slice none 0 0, .slice none 0 0, .int .i64 0, .int .i64 0, .int .i64 0, .int .i64 0, .int .i64 0, .int .i64 0, .int .i64 0, .int .u64 0, .int .i64 0, .slice none 0 0, .int .i64 0]) bv rfl
                      have R3 : RefOk (w6.setCells gs 0 [.slice A3 R0.length c3, .slice A4 K0.length c4, .int .i64 s, .int .i64 t, .int .i64 f, .int .i64 l, .int .i64 p, .int .i64 1, .int .u64 0, .slice none 0 0, .slice none 0 0, .int .i64 0, .int .i64 0, .int .i64 0, .int .i64 0, .int .i64 0, .int .i64 0, .int .i64 0, .int .u64 0, .int .i64 0, .slice none 0 0, .int .i64 0]) g ws := by rw [putL_eq]; exact Blk.offL hgg _ _ 0 R1
                      have x3 : Blk (w6.setCells gs 0 [.slice A3 R0.length c3, .slice A4 K0.length c4, .int .i64 s, .int .i64 t, .int .i64 f, .int .i64 l, .int .i64 p, .int .i64 1, .int .u64 0, .slice none 0 0, .slice none 0 0, .int .i64 0, .int .i64 0, .int .i64 0, .int .i64 0, .int .i64 0, .int .i64 0, .int .i64 0, .int .u64 0, .int .i64 0, .slice none 0 0, .int .i64 0]) w.heap.size 36 #[.int .i64 s, .int .i64 t, .int .i64 f, .int .i64 l, .int .i64 p] := by rw [putL_eq]; exact Blk.offL (by omega) _ _ 0 xc1
                      have B3 : Below w.heap.size w (w6.setCells gs 0 [.slice A3 R0.length c3, .slice A4 K0.length c4, .int .i64 s, .int .i64 t, .int .i64 f, .int .i64 l, .int .i64 p, .int .i64 1, .int .u64 0, .slice none 0 0, .slice none 0 0, .int .i64 0, .int .i64 0, .int .i64 0, .int .i64 0, .int .i64 0, .int .i64 0, .int .i64 0, .int .u64 0, .int .i64 0, .slice none 0 0, .int .i64 0]) := by rw [putL_eq]; exact Below.putL (by omega) _ _ 0 B1
                      clear hHeld
                      go_wp2_with fail
                      go_meet
                      exact ⟨gs, [.slice A3 R0.length c3, .slice A4 K0.length c4, .int .i64 s, .int .i64 t, .int .i64 f, .int .i64 l, .int .i64 p, .int .i64 1, .int .u64 0, .slice none 0 0, .slice none 0 0, .int .i64 0, .int .i64 0, .int .i64 0, .int .i64 0, .int .i64 0, .int .i64 0, .int .i64 0, .int .u64 0, .int .i64 0, .slice none 0 0, .int .i64 0], rfl, rfl, by kernel_rfl, bw, .inl ⟨rfl, rfl, rfl, st⟩, R3, x3, B3, hgg, hwg⟩
                    exact AllReadyZ.nil
                  exact AllReadyZ.nil
                refine AllReadyZ.cons (opAt rfl) (fun K hK => ?_) ?_
                · skip
                  go_simp
                  have bv := Blk.new w3 51 #[.slice none 0 0, .slice none 0 0, .int .i64 0, .int .i64 0, .int .i64 0, .int .i64 0, .int .i64 0, .int .i64 0, .int .u64 0, .slice none 0 0, .slice none 0 0, .int .i64 0, .int .i64 0, .int .i64 0, .int .i64 0, .int .i64 0, .int .i64 0, .int .i64 0, .int .u64 0, .int .i64 0, .slice none 0 0, .int .i64 0]
                  have HGS := hide (show gx + 1 ≤ w3.heap.size from HGC.out)
                  replace xc1 := xc1.alloc (.cells #[.slice none 0 0, .slice none 0 0, .int .i64 0, .int .i64 0, .int .i64 0, .int .i64 0, .int .i64 0, .int .i64 0, .int .u64 0, .slice none 0 0, .slice none 0 0, .int .i64 0, .int .i64 0, .int .i64 0, .int .i64 0, .int .i64 0, .int .i64 0, .int .i64 0, .int .u64 0, .int .i64 0, .slice none 0 0, .int .i64 0] 51)
                  replace bx1 := bx1.alloc (.cells #[.slice none 0 0, .slice none 0 0, .int .i64 0, .int .i64 0, .int .i64 0, .int .i64 0, .int .i64 0, .int .i64 0, .int .u64 0, .slice none 0 0, .slice none 0 0, .int .i64 0, .int .i64 0, .int .i64 0, .int .i64 0, .int .i64 0, .int .i64 0, .int .i64 0, .int .u64 0, .int .i64 0, .slice none 0 0, .int .i64 0] 51)
                  replace q1 := q1.alloc (.cells #[.slice none 0 0, .slice none 0 0, .int .i64 0, .int .i64 0, .int .i64 0, .int .i64 0, .int .i64 0, .int .i64 0, .int .u64 0, .slice none 0 0, .slice none 0 0, .int .i64 0, .int .i64 0, .int .i64 0, .int .i64 0, .int .i64 0, .int .i64 0, .int .i64 0, .int .u64 0, .int .i64 0, .slice none 0 0, .int .i64 0] 51)
                  replace q2 := q2.alloc (.cells #[.slice none 0 0, .slice none 0 0, .int .i64 0, .int .i64 0, .int .i64 0, .int .i64 0, .int .i64 0, .int .i64 0, .int .u64 0, .slice none 0 0, .slice none 0 0, .int .i64 0, .int .i64 0, .int .i64 0, .int .i64 0, .int .i64 0, .int .i64 0, .int .i64 0, .int .u64 0, .int .i64 0, .slice none 0 0, .int .i64 0] 51)
                  replace R1 := Blk.alloc R1 (.cells #[.slice none 0 0, .slice none 0 0, .int .i64 0, .int .i64 0, .int .i64 0, .int .i64 0, .int .i64 0, .int .i64 0, .int .u64 0, .slice none 0 0, .slice none 0 0, .int .i64 0, .int .i64 0, .int .i64 0, .int .i64 0, .int .i64 0, .int .i64 0, .int .i64 0, .int .u64 0, .int .i64 0, .slice none 0 0, .int .i64 0] 51)
                  replace B1 := B1.alloc B1.size (.cells #[.slice none 0 0, .slice none 0 0, .int .i64 0, .int .i64 0, .int .i64 0, .int .i64 0, .int .i64 0, .int .i64 0, .int .u64 0, .slice none 0 0, .slice none 0 0, .int .i64 0, .int .i64 0, .int .i64 0, .int .i64 0, .int .i64 0, .int .i64 0, .int .i64 0, .int .u64 0, .int .i64 0, .slice none 0 0, .int .i64 0] 51)
                  replace HGC := hide (show gx + 1 ≤ (w3.alloc (.cells #[.slice none 0 0, .slice none 0 0, .int .i64 0, .int .i64 0, .int .i64 0, .int .i64 0, .int .i64 0, .int .i64 0, .int .u64 0, .slice none 0 0, .slice none 0 0, .int .i64 0, .int .i64 0, .int .i64 0, .int .i64 0, .int .i64 0, .int .i64 0, .int .i64 0, .int .u64 0, .int .i64 0, .slice none 0 0, .int .i64 0] 51)).heap.size by rw [World.size_alloc]; exact Nat.le_succ_of_le HGC.out)
                  generalize w3.alloc (.cells #[.slice none 0 0, .slice none 0 0, .int .i64 0, .int .i64 0, .int .i64 0, .int .i64 0, .int .i64 0, .int .i64 0, .int .u64 0, .slice none 0 0, .slice none 0 0, .int .i64 0, .int .i64 0, .int .i64 0, .int .i64 0, .int .i64 0, .int .i64 0, .int .i64 0, .int .u64 0, .int .i64 0, .slice none 0 0, .int .i64 0] 51) = w4 at *
                  generalize w3.heap.size = gs at *
                  refine hK.out _ _ (by exact ⟨xc1.cell 0, xc1.cell 1, xc1.cell 2, xc1.cell 3, xc1.cell 4, bx1.cell 0, bx1.cell 1⟩) (fun hHeld => ?_)
                  clear hK K
                  try simp only [Act.put, List.setIfInBounds_toArray, List.set_cons_zero, List.set_cons_succ]
                  refine wpAnyZ_ready (rs := [3]) (by as_aux_lemma => kernel_rfl) (by simp) ?_
                  refine AllReadyZ.cons (opAt rfl) (fun K hK => ?_) ?_
                  · skip
                    go_simp
                    refine (SN.out _ (Reads.of_own q1) ((Tr.of_own q2 (show g < gx + 1 by have := HGX.out.1; omega) HGC.out).sl)).mono ?_
                    rintro e w6 ⟨⟨A3, c3, A4, c4, rfl, r1, r2⟩, hb1⟩
                    have HGG : ghB < w4.heap.size := (show g < w4.heap.size by have := HGC.out; have := HGX.out.1; omega)
                    have t1 : Tr w6 31 2 (.slice A3 R0.length c3) R0.length (rec2 R0) := Tr.of_own r1 HGG hb1.size
                    have t2 : Tr w6 29 1 (.slice A4 K0.length c4) K0.length (ints .u64 K0) := Tr.of_own r2 HGG hb1.size
                    clear r1 r2 HGG
                    replace xc1 := xc1.below hb1 xc1.lt
                    replace bx1 := bx1.below hb1 bx1.lt
                    replace q1 := own_below q1 hb1
                    replace q2 := own_below q2 hb1
                    replace R1 := RefOk.below R1 hb1
                    replace B1 := B1.trans (hb1.mono B1.size)
                    replace HGC := hide (Nat.le_trans HGC.out hb1.size)
                    replace bv := bv.below hb1 bv.lt
                    clear hb1
                    try go_wp2_with fail
                    refine hK.out _ _ (by exact ⟨xc1.cell 0, xc1.cell 1, xc1.cell 2, xc1.cell 3, xc1.cell 4, bx1.cell 0, bx1.cell 1⟩) (fun hHeld => ?_)
                    clear hK K
                    try simp only [Act.put, List.setIfInBounds_toArray, List.set_cons_zero, List.set_cons_succ]
                    refine wpAnyZ_ready (rs := [5]) (by as_aux_lemma => kernel_rfl) (by simp) ?_
                    refine AllReadyZ.last (opAt rfl) (by as_aux_lemma => kernel_rfl) (fun K hK => ?_) ?_
                    · skip
                      refine wp_store_mid 51 (.tmp 21) (.tmp 172) rfl gs 0 #[.slice A3 R0.length c3, .slice A4 K0.length c4, .int .i64 s, .int .i64 t, .int .i64 f, .int .i64 l, .int .i64 p, .int .i64 1, .int .u64 0, .slice none 0 0, .slice none 0 0, .int .i64 0, .int .i64 0, .int .i64 0, .int .i64 0, .int .i64 0, .int .i64 0, .int .i64 0, .int .u64 0, .int .i64 0, .slice none 0 0, .int .i64 0] (by rfl) (by rfl) (bv.there rfl) (by as_aux_lemma => kernel_rfl) (by as_aux_lemma => kernel_rfl) ?_
                      refine hK.out _ _ ?_
                      clear hK K
                      try simp only [Act.put, List.setIfInBounds_toArray, List.set_cons_zero, List.set_cons_succ]
                      refine wpAnyZ_done (by as_aux_lemma => kernel_rfl) ?_ _
                      have hgg : g ≠ gs := by have := HGS.out; have := HGX.out.1; omega
                      have hwg : w.heap.size < gs := by have := HGS.out; have := HGX.out.1; have := hg0.out; omega
                      have st : SwV (w6.setCells gs 0 [.slice A3 R0.length c3, .slice A4 K0.length c4, .int .i64 s, .int .i64 t, .int .i64 f, .int .i64 l, .int .i64 p, .int .i64 1, .int .u64 0, .slice none 0 0, .slice none 0 0, .int .i64 0, .int .i64 0, .int .i64 0, .int .i64 0, .int .i64 0, .int .i64 0, .int .i64 0, .int .u64 0, .int .i64 0, .slice none 0 0, .int .i64 0]) s t f l p 1 0 R0 K0 [] [] 0 0 0 0 0 0 0 0 0 [] 0 (.agg #[.slice A3 R0.length c3, .slice A4 K0.length c4, .int .i64 s, .int .i64 t, .int .i64 f, .int .i64 l, .int .i64 p, .int .i64 1, .int .u64 0, .slice none 0 0, .slice none 0 0, .int .i64 0, .int .i64 0, .int .i64 0, .int .i64 0, .int .i64 0, .int .i64 0, .int .i64 0, .int .u64 0, .int .i64 0, .slice none 0 0, .int .i64 0]) := SwV.put ⟨A3, c3, A4, c4, none, 0, none, 0, none, 0, rfl, t1, t2, Tr.nil _ _ _ t1.gh, Tr.nil _ _ _ t1.gh, Tr.nil _ _ _ t1.gh⟩ bv [.slice A3 R0.length c3, .slice A4 K0.length c4, .int .i64 s, .int .i64 t, .int .i64 f, .int .i64 l, .int .i64 p, .int .i64 1, .int .u64 0, .slice none 0 0, .slice none 0 0, .int .i64 0, .int .i64 0, .int .i64 0, .int .i64 0, .int .i64 0, .int .i64 0, .int .i64 0, .int .u64 0, .int .i64 0, .slice none 0 0, .int .i64 0]
                      have bw : Blk (w6.setCells gs 0 [.slice A3 R0.length c3, .slice A4 K0.length c4, .int .i64 s, .int .i64 t, .int .i64 f, .int .i64 l, .int .i64 p, .int .i64 1, .int .u64 0, .slice none 0 0, .slice none 0 0, .int .i64 0, .int .i64 0, .int .i64 0, .int .i64 0, .int .i64 0, .int .i64 0, .int .i64 0, .int .u64 0, .int .i64 0, .slice none 0 0, .int .i64 0]) gs 51 ([.slice A3 R0.length c3, .slice A4 K0.length c4, .int .i64 s, .int .i64 t, .int .i64 f, .int .i64 l, .int .i64 p, .int .i64 1, .int .u64 0, .slice none 0 0, .slice none 0 0, .int .i64 0, .int .i64 0, .int .i64 0, .int .i64 0, .int .i64 0, .int .i64 0, .int .i64 0, .int .u64 0, .int .i64 0, .slice none 0 0, .int .i64 0] : List Value).toArray := Blk.put_all (cs0 := [.slice none 0 0, .slice none 0 0, .int .i64 0, .int .i64 0, .int .i64 0, .int .i64 0, .int .i64 0, .int .i64 0, .int .u64 0, .slice none 0 0, .slice none 0 0, .int .i64 0, .int .i64 0, .int .i64 0, .int .i64 0, .int .i64 0, .int .i64 0, .int .i64 0, .int .u64 0, .int .i64 0, .slice none 0 0, .int .i64 0]) bv rfl
                      have R3 : RefOk (w6.setCells gs 0 [.slice A3 R0.length c3, .slice A4 K0.length c4, .int .i64 s, .int .i64 t, .int .i64 f, .int .i64 l, .int .i64 p, .int .i64 1, .int .u64 0, .slice none 0 0, .slice none 0 0, .int .i64 0, .int .i64 0, .int .i64 0, .int .i64 0, .int .i64 0, .int .i64 0, .int .i64 0, .int .u64 0, .int .i64 0, .slice none 0 0, .int .i64 0]) g ws := by rw [putL_eq]; exact Blk.offL hgg _ _ 0 R1
                      have x3 : Blk (w6.setCells gs 0 [.slice A3 R0.length c3, .slice A4 K0.length c4, .int .i64 s, .int .i64 t, .int .i64 f, .int .i64 l, .int .i64 p, .int .i64 1, .int .u64 0, .slice none 0 0, .slice none 0 0, .int .i64 0, .int .i64 0, .int .i64 0, .int .i64 0, .int .i64 0, .int .i64 0, .int .i64 0, .int .u64 0, .int .i64 0, .slice none 0 0, .int .i64 0]) w.heap.size 36 #[.int .i64 s, .int .i64 t, .int .i64 f, .int .i64 l, .int .i64 p] := by rw [putL_eq]; exact Blk.offL (by omega) _ _ 0 xc1
                      have B3 : Below w.heap.size w (w6.setCells gs 0 [.slice A3 R0.length c3, .slice A4 K0.length c4, .int .i64 s, .int .i64 t, .int .i64 f, .int .i64 l, .int .i64 p, .int .i64 1, .int .u64 0, .slice none 0 0, .slice none 0 0, .int .i64 0, .int .i64 0, .int .i64 0, .int .i64 0, .int .i64 0, .int .i64 0, .int .i64 0, .int .u64 0, .int .i64 0, .slice none 0 0, .int .i64 0]) := by rw [putL_eq]; exact Below.putL (by omega) _ _ 0 B1
                      clear hHeld
                      go_wp2_with fail
                      go_meet
                      exact ⟨gs, [.slice A3 R0.length c3, .slice A4 K0.length c4, .int .i64 s, .int .i64 t, .int .i64 f, .int .i64 l, .int .i64 p, .int .i64 1, .int .u64 0, .slice none 0 0, .slice none 0 0, .int .i64 0, .int .i64 0, .int .i64 0, .int .i64 0, .int .i64 0, .int .i64 0, .int .i64 0, .int .u64 0, .int .i64 0, .slice none 0 0, .int .i64 0], rfl, rfl, by kernel_rfl, bw, .inl ⟨rfl, rfl, rfl, st⟩, R3, x3, B3, hgg, hwg⟩
                    exact AllReadyZ.nil
                  exact AllReadyZ.nil
                exact AllReadyZ.nil
              refine AllReadyZ.cons (opAt rfl) (fun K hK => ?_) ?_
              · skip
                go_simp
                have bv := Blk.new wd 51 #[.slice none 0 0, .slice none 0 0, .int .i64 0, .int .i64 0, .int .i64 0, .int .i64 0, .int .i64 0, .int .i64 0, .int .u64 0, .slice none 0 0, .slice none 0 0, .int .i64 0, .int .i64 0, .int .i64 0, .int .i64 0, .int .i64 0, .int .i64 0, .int .i64 0, .int .u64 0, .int .i64 0, .slice none 0 0, .int .i64 0]
                have HGS := hide (show gx + 1 ≤ wd.heap.size from HGC.out)
                replace xc1 := xc1.alloc (.cells #[.slice none 0 0, .slice none 0 0, .int .i64 0, .int .i64 0, .int .i64 0, .int .i64 0, .int .i64 0, .int .i64 0, .int .u64 0, .slice none 0 0, .slice none 0 0, .int .i64 0, .int .i64 0, .int .i64 0, .int .i64 0, .int .i64 0, .int .i64 0, .int .i64 0, .int .u64 0, .int .i64 0, .slice none 0 0, .int .i64 0] 51)
                replace bx1 := bx1.alloc (.cells #[.slice none 0 0, .slice none 0 0, .int .i64 0, .int .i64 0, .int .i64 0, .int .i64 0, .int .i64 0, .int .i64 0, .int .u64 0, .slice none 0 0, .slice none 0 0, .int .i64 0, .int .i64 0, .int .i64 0, .int .i64 0, .int .i64 0, .int .i64 0, .int .i64 0, .int .u64 0, .int .i64 0, .slice none 0 0, .int .i64 0] 51)
                replace q1 := q1.alloc (.cells #[.slice none 0 0, .slice none 0 0, .int .i64 0, .int .i64 0, .int .i64 0, .int .i64 0, .int .i64 0, .int .i64 0, .int .u64 0, .slice none 0 0, .slice none 0 0, .int .i64 0, .int .i64 0, .int .i64 0, .int .i64 0, .int .i64 0, .int .i64 0, .int .i64 0, .int .u64 0, .int .i64 0, .slice none 0 0, .int .i64 0] 51)
                replace q2 := q2.alloc (.cells #[.slice none 0 0, .slice none 0 0, .int .i64 0, .int .i64 0, .int .i64 0, .int .i64 0, .int .i64 0, .int .i64 0, .int .u64 0, .slice none 0 0, .slice none 0 0, .int .i64 0, .int .i64 0, .int .i64 0, .int .i64 0, .int .i64 0, .int .i64 0, .int .i64 0, .int .u64 0, .int .i64 0, .slice none 0 0, .int .i64 0] 51)
                replace R1 := Blk.alloc R1 (.cells #[.slice none 0 0, .slice none 0 0, .int .i64 0, .int .i64 0, .int .i64 0, .int .i64 0, .int .i64 0, .int .i64 0, .int .u64 0, .slice none 0 0, .slice none 0 0, .int .i64 0, .int .i64 0, .int .i64 0, .int .i64 0, .int .i64 0, .int .i64 0, .int .i64 0, .int .u64 0, .int .i64 0, .slice none 0 0, .int .i64 0] 51)
                replace B1 := B1.alloc B1.size (.cells #[.slice none 0 0, .slice none 0 0, .int .i64 0, .int .i64 0, .int .i64 0, .int .i64 0, .int .i64 0, .int .i64 0, .int .u64 0, .slice none 0 0, .slice none 0 0, .int .i64 0, .int .i64 0, .int .i64 0, .int .i64 0, .int .i64 0, .int .i64 0, .int .i64 0, .int .u64 0, .int .i64 0, .slice none 0 0, .int .i64 0] 51)
                replace HGC := hide (show gx + 1 ≤ (wd.alloc (.cells #[.slice none 0 0, .slice none 0 0, .int .i64 0, .int .i64 0, .int .i64 0, .int .i64 0, .int .i64 0, .int .i64 0, .int .u64 0, .slice none 0 0, .slice none 0 0, .int .i64 0, .int .i64 0, .int .i64 0, .int .i64 0, .int .i64 0, .int .i64 0, .int .i64 0, .int .u64 0, .int .i64 0, .slice none 0 0, .int .i64 0] 51)).heap.size by rw [World.size_alloc]; exact Nat.le_succ_of_le HGC.out)
                generalize wd.alloc (.cells #[.slice none 0 0, .slice none 0 0, .int .i64 0, .int .i64 0, .int .i64 0, .int .i64 0, .int .i64 0, .int .i64 0, .int .u64 0, .slice none 0 0, .slice none 0 0, .int .i64 0, .int .i64 0, .int .i64 0, .int .i64 0, .int .i64 0, .int .i64 0, .int .i64 0, .int .u64 0, .int .i64 0, .slice none 0 0, .int .i64 0] 51) = w3 at *
                generalize wd.heap.size = gs at *
                refine hK.out _ _ (by exact ⟨xc1.cell 0, xc1.cell 1, xc1.cell 2, xc1.cell 3, xc1.cell 4, bx1.cell 0, bx1.cell 1⟩) (fun hHeld => ?_)
                clear hK K
                try simp only [Act.put, List.setIfInBounds_toArray, List.set_cons_zero, List.set_cons_succ]
                refine wpAnyZ_ready (rs := [1]) (by as_aux_lemma => kernel_rfl) (by simp) ?_
                refine AllReadyZ.cons (opAt rfl) (fun K hK => ?_) ?_
                · skip
                  go_simp
                  refine (LN.out _ B1).mono ?_
                  rintro e w4 ⟨rfl, hb1⟩
                  replace xc1 := xc1.below hb1 xc1.lt
                  replace bx1 := bx1.below hb1 bx1.lt
                  replace q1 := own_below q1 hb1
                  replace q2 := own_below q2 hb1
                  replace R1 := RefOk.below R1 hb1
                  replace B1 := B1.trans (hb1.mono B1.size)
                  replace HGC := hide (Nat.le_trans HGC.out hb1.size)
                  replace bv := bv.below hb1 bv.lt
                  clear hb1
                  try go_wp2_with fail
                  refine hK.out _ _ (by exact ⟨xc1.cell 0, xc1.cell 1, xc1.cell 2, xc1.cell 3, xc1.cell 4, bx1.cell 0, bx1.cell 1⟩) (fun hHeld => ?_)
                  clear hK K
                  try simp only [Act.put, List.setIfInBounds_toArray, List.set_cons_zero, List.set_cons_succ]
                  refine wpAnyZ_ready (rs := [3]) (by as_aux_lemma => kernel_rfl) (by simp) ?_
                  refine AllReadyZ.cons (opAt rfl) (fun K hK => ?_) ?_
                  · skip
                    go_simp
                    refine (SN.out _ (Reads.of_own q1) ((Tr.of_own q2 (show g < gx + 1 by have := HGX.out.1; omega) HGC.out).sl)).mono ?_
                    rintro e w6 ⟨⟨A3, c3, A4, c4, rfl, r1, r2⟩, hb1⟩
                    have HGG : ghB < w4.heap.size := (show g < w4.heap.size by have := HGC.out; have := HGX.out.1; omega)
                    have t1 : Tr w6 31 2 (.slice A3 R0.length c3) R0.length (rec2 R0) := Tr.of_own r1 HGG hb1.size
                    have t2 : Tr w6 29 1 (.slice A4 K0.length c4) K0.length (ints .u64 K0) := Tr.of_own r2 HGG hb1.size
                    clear r1 r2 HGG
                    replace xc1 := xc1.below hb1 xc1.lt
                    replace bx1 := bx1.below hb1 bx1.lt
                    replace q1 := own_below q1 hb1
                    replace q2 := own_below q2 hb1
                    replace R1 := RefOk.below R1 hb1
                    replace B1 := B1.trans (hb1.mono B1.size)
                    replace HGC := hide (Nat.le_trans HGC.out hb1.size)
                    replace bv := bv.below hb1 bv.lt
                    clear hb1
                    try go_wp2_with fail
                    refine hK.out _ _ (by exact ⟨xc1.cell 0, xc1.cell 1, xc1.cell 2, xc1.cell 3, xc1.cell 4, bx1.cell 0, bx1.cell 1⟩) (fun hHeld => ?_)
                    clear hK K
                    try simp only [Act.put, List.setIfInBounds_toArray, List.set_cons_zero, List.set_cons_succ]
                    refine wpAnyZ_ready (rs := [5]) (by as_aux_lemma => kernel_rfl) (by simp) ?_
                    refine AllReadyZ.last (opAt rfl) (by as_aux_lemma => kernel_rfl) (fun K hK => ?_) ?_
                    · skip
                      refine wp_store_mid 51 (.tmp 21) (.tmp 172) rfl gs 0 #[.slice A3 R0.length c3, .slice A4 K0.length c4, .int .i64 s, .int .i64 t, .int .i64 f, .int .i64 l, .int .i64 p, .int .i64 1, .int .u64 0, .slice none 0 0, .slice none 0 0, .int .i64 0, .int .i64 0, .int .i64 0, .int .i64 0, .int .i64 0, .int .i64 0, .int .i64 0, .int .u64 0, .int .i64 0, .slice none 0 0, .int .i64 0] (by rfl) (by rfl) (bv.there rfl) (by as_aux_lemma => kernel_rfl) (by as_aux_lemma => kernel_rfl) ?_
                      refine hK.out _ _ ?_
                      clear hK K
                      try simp only [Act.put, List.setIfInBounds_toArray, List.set_cons_zero, List.set_cons_succ]
                      refine wpAnyZ_done (by as_aux_lemma => kernel_rfl) ?_ _
                      have hgg : g ≠ gs := by have := HGS.out; have := HGX.out.1; omega
                      have hwg : w.heap.size < gs := by have := HGS.out; have := HGX.out.1; have := hg0.out; omega
                      have st : SwV (w6.setCells gs 0 [.slice A3 R0.length c3, .slice A4 K0.length c4, .int .i64 s, .int .i64 t, .int .i64 f, .int .i64 l, .int .i64 p, .int .i64 1, .int .u64 0, .slice none 0 0, .slice none 0 0, .int .i64 0, .int .i64 0, .int .i64 0, .int .i64 0, .int .i64 0, .int .i64 0, .int .i64 0, .int .u64 0, .int .i64 0, .slice none 0 0, .int .i64 0]) s t f l p 1 0 R0 K0 [] [] 0 0 0 0 0 0 0 0 0 [] 0 (.agg #[.slice A3 R0.length c3, .slice A4 K0.length c4, .int .i64 s, .int .i64 t, .int .i64 f, .int .i64 l, .int .i64 p, .int .i64 1, .int .u64 0, .slice none 0 0, .slice none 0 0, .int .i64 0, .int .i64 0, .int .i64 0, .int .i64 0, .int .i64 0, .int .i64 0, .int .i64 0, .int .u64 0, .int .i64 0, .slice none 0 0, .int .i64 0]) := SwV.put ⟨A3, c3, A4, c4, none, 0, none, 0, none, 0, rfl, t1, t2, Tr.nil _ _ _ t1.gh, Tr.nil _ _ _ t1.gh, Tr.nil _ _ _ t1.gh⟩ bv [.slice A3 R0.length c3, .slice A4 K0.length c4, .int .i64 s, .int .i64 t, .int .i64 f, .int .i64 l, .int .i64 p, .int .i64 1, .int .u64 0, .slice none 0 0, .slice none 0 0, .int .i64 0, .int .i64 0, .int .i64 0, .int .i64 0, .int .i64 0, .int .i64 0, .int .i64 0, .int .u64 0, .int .i64 0, .slice none 0 0, .int .i64 0]
                      have bw : Blk (w6.setCells gs 0 [.slice A3 R0.length c3, .slice A4 K0.length c4, .int .i64 s, .int .i64 t, .int .i64 f, .int .i64 l, .int .i64 p, .int .i64 1, .int .u64 0, .slice none 0 0, .slice none 0 0, .int .i64 0, .int .i64 0, .int .i64 0, .int .i64 0, .int .i64 0, .int .i64 0, .int .i64 0, .int .u64 0, .int .i64 0, .slice none 0 0, .int .i64 0]) gs 51 ([.slice A3 R0.length c3, .slice A4 K0.length c4, .int .i64 s, .int .i64 t, .int .i64 f, .int .i64 l, .int .i64 p, .int .i64 1, .int .u64 0, .slice none 0 0, .slice none 0 0, .int .i64 0, .int .i64 0, .int .i64 0, .int .i64 0, .int .i64 0, .int .i64 0, .int .i64 0, .int .u64 0, .int .i64 0, .slice none 0 0, .int .i64 0] : List Value).toArray := Blk.put_all (cs0 := [.slice none 0 0, .slice none 0 0, .int .i64 0, .int .i64 0, .int .i64 0, .int .i64 0, .int .i64 0, .int .i64 0, .int .u64 0, .slice none 0 0, .slice none 0 0, .int .i64 0, .int .i64 0, .int .i64 0, .int .i64 0, .int .i64 0, .int .i64 0, .int .i64 0, .int .u64 0, .int .i64 0, .slice none 0 0, .int .i64 0]) bv rfl
                      have R3 : RefOk (w6.setCells gs 0 [.slice A3 R0.length c3, .slice A4 K0.length c4, .int .i64 s, .int .i64 t, .int .i64 f, .int .i64 l, .int .i64 p, .int .i64 1, .int .u64 0, .slice none 0 0, .slice none 0 0, .int .i64 0, .int .i64 0, .int .i64 0, .int .i64 0, .int .i64 0, .int .i64 0, .int .i64 0, .int .u64 0, .int .i64 0, .slice none 0 0, .int .i64 0]) g ws := by rw [putL_eq]; exact Blk.offL hgg _ _ 0 R1
                      have x3 : Blk (w6.setCells gs 0 [.slice A3 R0.length c3, .slice A4 K0.length c4, .int .i64 s, .int .i64 t, .int .i64 f, .int .i64 l, .int .i64 p, .int .i64 1, .int .u64 0, .slice none 0 0, .slice none 0 0, .int .i64 0, .int .i64 0, .int .i64 0, .int .i64 0, .int .i64 0, .int .i64 0, .int .i64 0, .int .u64 0, .int .i64 0, .slice none 0 0, .int .i64 0]) w.heap.size 36 #[.int .i64 s, .int .i64 t, .int .i64 f, .int .i64 l, .int .i64 p] := by rw [putL_eq]; exact Blk.offL (by omega) _ _ 0 xc1
                      have B3 : Below w.heap.size w (w6.setCells gs 0 [.slice A3 R0.length c3, .slice A4 K0.length c4, .int .i64 s, .int .i64 t, .int .i64 f, .int .i64 l, .int .i64 p, .int .i64 1, .int .u64 0, .slice none 0 0, .slice none 0 0, .int .i64 0, .int .i64 0, .int .i64 0, .int .i64 0, .int .i64 0, .int .i64 0, .int .i64 0, .int .u64 0, .int .i64 0, .slice none 0 0, .int .i64 0]) := by rw [putL_eq]; exact Below.putL (by omega) _ _ 0 B1
                      clear hHeld
                      go_wp2_with fail
                      go_meet
                      exact ⟨gs, [.slice A3 R0.length c3, .slice A4 K0.length c4, .int .i64 s, .int .i64 t, .int .i64 f, .int .i64 l, .int .i64 p, .int .i64 1, .int .u64 0, .slice none 0 0, .slice none 0 0, .int .i64 0, .int .i64 0, .int .i64 0, .int .i64 0, .int .i64 0, .int .i64 0, .int .i64 0, .int .u64 0, .int .i64 0, .slice none 0 0, .int .i64 0], rfl, rfl, by kernel_rfl, bw, .inl ⟨rfl, rfl, rfl, st⟩, R3, x3, B3, hgg, hwg⟩
                    exact AllReadyZ.nil
                  exact AllReadyZ.nil
                exact AllReadyZ.nil
              exact AllReadyZ.nil
            case rest =>
              obtain ⟨gs, cs0, rfl, hcl0, hco0, bs0, hst0, R1, xc, B1, hgg, hwg⟩ := hcut
              have HGG := hide (And.intro hgg hwg)
              clear hgg hwg
              obtain ⟨M, hM⟩ : ∃ M : Nat, 2 * t + 1 + 3 * (i : Int) = M := Int.eq_ofNat_of_zero_le (by have := HS.out.2.1; omega)
              have HM := hide hM
              clear hM
              have HTD := hide (show (SwRun.TD (SwRun.mk s t f l p ep R0 K0 HZ0 ws F0)).length ≤ i from (by have h9 := SwRun.td_len R0 K0 HZ0 ep; have h8 := kr_all (S := S) (E := E) (kp := kept.toNat) (by have := HL.out; have := HB.out; omega); rw [hR0.out, hK0.out] at h8; have h7 := congrArg List.length h8; rw [List.length_append, List.length_map, List.length_map] at h7; have h6 : (SwRun.TD (SwRun.mk s t f l p ep R0 K0 HZ0 ws F0)).length ≤ K0.length + R0.length := h9; omega))
              have hw1 : IntKind.i64.wrap (2 * t) = 2 * t := IntWalk.i64_in _ (by have := HS.out.2.1; omega)
              have hw2 : IntKind.i64.wrap (2 * t + 1) = 2 * t + 1 := IntWalk.i64_in _ (by have := HS.out.2.1; omega)
              have hw3 : IntKind.i64.wrap (3 * (i : Int)) = 3 * (i : Int) := IntWalk.i64_in _ (by have := HB.out.1; omega)
              have hw4 : IntKind.i64.wrap (2 * t + 1 + 3 * (i : Int)) = (M : Int) := by rw [IntWalk.i64_in _ (by have := HS.out.2.1; have := HB.out.1; omega)]; exact HM.out
              go_upto_block 6 with fail
              go_cut [22] from 173 to 195 (fun _ wx => ∃ (cs : List Value) (n : Nat) (wn : List Int), cs.length = 22 ∧ Blk wx gs 51 cs.toArray ∧ SwRun.St (SwRun.mk s t f l p ep R0 K0 HZ0 ws F0) n wn 0 wx (.agg cs.toArray) ∧ RefOk wx g wn ∧ Blk wx w.heap.size 36 #[.int .i64 s, .int .i64 t, .int .i64 f, .int .i64 l, .int .i64 p] ∧ Below w.heap.size w wx)
              case first =>
                go_wp2_with fail
                go_loopw [22] (SfR (SwRun.mk s t f l p ep R0 K0 HZ0 ws F0) g gs #[.int .i64 s, .int .i64 t, .int .i64 f, .int .i64 l, .int .i64 p] w M) (fun iv _ => M - (intOf iv).toNat)
                case atStart => exact ⟨0, 1, cs0, ws, rfl, Nat.zero_le _, hcl0, hco0, bs0, hst0, R1, rfl, xc, B1⟩
                case round =>
                  clear hcl0 hco0 bs0 hst0 R1 xc B1
                  obtain ⟨n, k, cs, wn, rfl, hnM, hcl, hco, bs, hst, R1, hwl, xc, B1⟩ := hrel
                  have HST := hide hst
                  clear hst
                  have HCO := hide (And.intro hco (And.intro hwl hnM))
                  clear hco hwl hnM
                  have mc := fun i => xc.cell i
                  by_cases hk : k = 0
                  · skip
                    subst hk
                    by_cases hnM : n < M
                    · skip
                      have hnMi : (n : Int) < (M : Int) := by omega
                      go_wp2_with (first | (refine wpList_load_midG (by rfl) 51 (.tmp 21) rfl gs 0 (by rfl) cs _ bs.range Tryd.underlying51 rfl (by rw [hcl]; kernel_rfl) ?_))
                      refine (HST.out.done _).mono ?_
                      rintro e w5 ⟨rfl, hb1⟩
                      replace HST := hide (HST.out.below (Nat.le_refl _) hb1)
                      replace bs := bs.below hb1 bs.lt
                      replace xc := xc.below hb1 xc.lt
                      replace R1 := RefOk.below R1 hb1
                      replace B1 := B1.trans (hb1.mono B1.size)
                      clear hb1 mc
                      go_wp2_with fail
                      go_meet
                      exact ⟨cs, n, wn, hcl, bs, HST.out, R1, xc, B1⟩
                    · skip
                      have hnMi : ¬ (n : Int) < (M : Int) := by omega
                      go_wp2_with fail
                      go_meet
                      exact ⟨cs, n, wn, hcl, bs, HST.out, R1, xc, B1⟩
                  · skip
                    have hnM : n < M := by have h9 := SwRun.St.lt HST.out hk; have h8 := OK.out.hHl; have h7 := HM.out; have h6 := HTD.out; have h5 : (HZ0.length : Int) = 2 * t := h8; have h4 : n < 1 + HZ0.length + 3 * (SwRun.TD (SwRun.mk s t f l p ep R0 K0 HZ0 ws F0)).length := h9; omega
                    have hnMi : (n : Int) < (M : Int) := by omega
                    have hn6 : (n : Int) ≤ 1000 := by have := HM.out; have := HS.out.2.1; have := HB.out.1; omega
                    have hkb : (k == 0) = false := by rw [beq_eq_false_iff_ne]; exact hk
                    go_wp2_with (first | (refine wpList_load_midG (by rfl) 51 (.tmp 21) rfl gs 0 (by rfl) cs _ bs.range Tryd.underlying51 rfl (by rw [hcl]; kernel_rfl) ?_))
                    refine (HST.out.done _).mono ?_
                    rintro e w5 ⟨rfl, hb1⟩
                    replace HST := hide (HST.out.below (Nat.le_refl _) hb1)
                    replace bs := bs.below hb1 bs.lt
                    replace xc := xc.below hb1 xc.lt
                    replace R1 := RefOk.below R1 hb1
                    replace B1 := B1.trans (hb1.mono B1.size)
                    clear hb1 mc
                    go_wp2_with fail
                    obtain ⟨a0, a1, a2, a3, gt, wn2, hdo, WANT, TOOK⟩ := OK.out.step HST.out hk
                    have HWANT := hide WANT
                    have HTOOK := hide TOOK
                    clear WANT TOOK
                    have hwl : wn.length = N := by rw [HCO.out.2.1]; have h9 := OK.out.hWl; have h8 := HN.out.1; have h7 : (ws.length : Int) = laySize s t f := h9; show ws.length = N; omega
                    have DO := hide (fun w2 (h : RefOk w2 g wn) => (by have h9 := rdo_any g N a0 a1 a2 a3 wn w2 h; rw [hdo, hwl] at h9; exact h9 : Calls Tryd.prog 21 #[.slice (some ⟨g, 0, none⟩) N N, .agg #[.int .i64 a0, .int .i64 a1, .int .u64 a2, .int .u64 a3]] w2 fun e w' => e = .returned (.int .u64 gt) ∧ RefOk w' g wn2 ∧ w2.grownBy w' (some g)))
                    have HLW := hide (show wn2.length = (SwRun.mk s t f l p ep R0 K0 HZ0 ws F0).W0.length by have h9 := mDo_len wn a0 a1 a2 a3; rw [hdo] at h9; rw [← HCO.out.2.1]; exact h9)
                    clear hdo hwl HST
                    replace bs := bs.drew
                    replace xc := xc.drew
                    replace R1 := Blk.drew R1
                    replace B1 := B1.drew
                    have BQ := (Below.refl w5.heap.size w5).drew
                    refine wp_region_heldZ [6] (fun w' => w'.rangeAt gs 0 cs) (by as_aux_lemma => kernel_rfl) (by exact bs.range) (fun hHeld => ?_)
                    generalize w5.drew = wd at *
                    refine' wpAnyZ_takeA (i := 0) (v := .agg cs.toArray) (opAt rfl) (by as_aux_lemma => kernel_rfl) (by as_aux_lemma => kernel_rfl) (by as_aux_lemma => kernel_rfl) (by as_aux_lemma => kernel_rfl) (fun _ _ _ h => h) (by assumption) (by rfl) (fun w hSw => ?_) ?_
                    · exact exec_load_mid 51 (.tmp 21) rfl _ 0 (by rfl) cs _ hSw Tryd.underlying51 rfl (by rw [hcl]; kernel_rfl)
                    try simp only [Act.put, List.setIfInBounds_toArray, List.set_cons_zero, List.set_cons_succ]
                    refine' wpAnyZ_takeA (i := 1) (v := ?_) (opAt rfl) (by as_aux_lemma => kernel_rfl) (by as_aux_lemma => kernel_rfl) (by as_aux_lemma => kernel_rfl) (by as_aux_lemma => kernel_rfl) (fun _ _ _ h => h) (by assumption) (by rfl) (fun w hSw => ?_) ?_
                    rotate_left
                    · (try dsimp only at hSw); go_simp; (try with_reducible rfl)
                    try simp only [Act.put, List.setIfInBounds_toArray, List.set_cons_zero, List.set_cons_succ]
                    refine' wpAnyZ_takeA (i := 2) (v := .agg cs.toArray) (opAt rfl) (by as_aux_lemma => kernel_rfl) (by as_aux_lemma => kernel_rfl) (by as_aux_lemma => kernel_rfl) (by as_aux_lemma => kernel_rfl) (fun _ _ _ h => h) (by assumption) (by rfl) (fun w hSw => ?_) ?_
                    · exact exec_load_mid 51 (.tmp 21) rfl _ 0 (by rfl) cs _ hSw Tryd.underlying51 rfl (by rw [hcl]; kernel_rfl)
                    try simp only [Act.put, List.setIfInBounds_toArray, List.set_cons_zero, List.set_cons_succ]
                    refine wpAnyZ_ready (rs := [3]) (by as_aux_lemma => kernel_rfl) (by simp) ?_
                    refine AllReadyZ.cons (opAt rfl) (fun K hK => ?_) ?_
                    · skip
                      go_simp
                      refine (HWANT.out _ BQ).mono ?_
                      rintro e w6 ⟨rfl, hb1⟩
                      replace bs := bs.below hb1 bs.lt
                      replace xc := xc.below hb1 xc.lt
                      replace R1 := RefOk.below R1 hb1
                      replace B1 := B1.trans (hb1.mono B1.size)
                      replace BQ := BQ.trans (hb1.mono BQ.size)
                      clear hb1
                      try go_wp2_with fail
                      refine hK.out _ _ (by exact bs.range) (fun hHeld => ?_)
                      clear hK K
                      try simp only [Act.put, List.setIfInBounds_toArray, List.set_cons_zero, List.set_cons_succ]
                      refine wpAnyZ_ready (rs := [4]) (by as_aux_lemma => kernel_rfl) (by simp) ?_
                      refine AllReadyZ.cons (opAt rfl) (fun K hK => ?_) ?_
                      · skip
                        go_simp
                        refine (DO.out _ R1).mono ?_
                        rintro e w7 ⟨rfl, R2, hg2⟩
                        replace bs := Blk.grown bs hg2 (by have := HGG.out.1; simp; omega)
                        replace xc := Blk.grown xc hg2 (by have := hg0.out; simp; omega)
                        replace B1 := below_grown B1 hg2 (by have := hg0.out; omega) B1.size
                        replace R1 := R2
                        clear R2
                        try go_wp2_with fail
                        refine hK.out _ _ (by exact bs.range) (fun hHeld => ?_)
                        clear hK K
                        try simp only [Act.put, List.setIfInBounds_toArray, List.set_cons_zero, List.set_cons_succ]
                        refine wpAnyZ_ready (rs := [5]) (by as_aux_lemma => kernel_rfl) (by simp) ?_
                        refine AllReadyZ.cons (opAt rfl) (fun K hK => ?_) ?_
                        · skip
                          go_simp
                          refine (HTOOK.out _ _ BQ (show w6.grownBy w7 (some ghB) from hg2)).mono ?_
                          rintro e w8 ⟨⟨v', k', rfl, hst'⟩, hb1⟩
                          replace bs := bs.below hb1 bs.lt
                          replace xc := xc.below hb1 xc.lt
                          replace R1 := RefOk.below R1 hb1
                          replace B1 := B1.trans (hb1.mono B1.size)
                          clear hb1
                          clear BQ hg2
                          obtain ⟨cs', rfl, hcl', hco'⟩ := hst'.cells
                          try go_wp2_with fail
                          refine hK.out _ _ (by exact bs.range) (fun hHeld => ?_)
                          clear hK K
                          try simp only [Act.put, List.setIfInBounds_toArray, List.set_cons_zero, List.set_cons_succ]
                          refine wpAnyZ_ready (rs := [6]) (by as_aux_lemma => kernel_rfl) (by simp) ?_
                          refine AllReadyZ.last (opAt rfl) (by as_aux_lemma => kernel_rfl) (fun K hK => ?_) ?_
                          · skip
                            refine wp_store_mid 51 (.tmp 21) (.tmp 195) rfl gs 0 cs'.toArray (by rfl) (by rfl) (bs.there (by rw [List.size_toArray, List.size_toArray, hcl, hcl'])) (by rw [List.size_toArray, hcl']; kernel_rfl) hco' ?_
                            refine hK.out _ _ ?_
                            clear hK K
                            try simp only [Act.put, List.setIfInBounds_toArray, List.set_cons_zero, List.set_cons_succ]
                            refine wpAnyZ_done (by as_aux_lemma => kernel_rfl) ?_ _
                            have bw : Blk (w8.setCells gs 0 cs') gs 51 cs'.toArray := Blk.put_all (cs0 := cs) bs (by rw [hcl, hcl'])
                            have st' := hst'.put bs cs'
                            have R3 : RefOk (w8.setCells gs 0 cs') g wn2 := by rw [putL_eq]; exact Blk.offL HGG.out.1 _ _ 0 R1
                            have x3 : Blk (w8.setCells gs 0 cs') w.heap.size 36 #[.int .i64 s, .int .i64 t, .int .i64 f, .int .i64 l, .int .i64 p] := by rw [putL_eq]; exact Blk.offL (by have := HGG.out.2; omega) _ _ 0 xc
                            have B3 : Below w.heap.size w (w8.setCells gs 0 cs') := by rw [putL_eq]; exact Below.putL (by have := HGG.out.2; omega) _ _ 0 B1
                            clear hHeld bs xc R1 B1 hst'
                            skip
                            go_wp2_with fail
                            go_roundw
                            case measure => simp [intOf]; omega
                            case rel => exact ⟨n + 1, k', cs', wn2, by go_num, hnM, hcl', hco', bw, st', R3, HLW.out, x3, B3⟩
                          exact AllReadyZ.nil
                        exact AllReadyZ.nil
                      exact AllReadyZ.nil
                    exact AllReadyZ.nil
              case rest =>
                obtain ⟨cs, n, wn, hcl, bs, hst, R1, xc, B1⟩ := hcut
                clear hcl0 hco0 bs0 hst0
                obtain ⟨hwok, ep9, hz9, td9, y0, y1, y2, y3, y4, y5, y6, y7, y8, y9, y10, hsv⟩ := hst.stop
                have hst9 := hide hst
                have hfl := fl_end S E (hzW hz (2 * t).toNat) ws kept.toNat s t f l p ep
                rw [hR0.out, hK0.out, hF0.out, hHZ.out] at hfl
                have hrk := rk_end R0 K0 HZ0 ws F0 s t f l p ep
                rw [hfl] at hwok
                rw [hrk] at hsv
                clear hfl hrk hst
                have hrl := OK.out.rk_len (SwRun.TD (SwRun.mk s t f l p ep R0 K0 HZ0 ws F0)).length
                rw [rk_end R0 K0 HZ0 ws F0 s t f l p ep] at hrl
                have hLE : S.length ≤ E.length := by have := HL.out; have := HB.out; omega
                have h2S : ∀ a ∈ S, 2 ≤ a ∧ a ≤ 1000 := fun a ha => by have := HBD.out.1 a ha; have := HS.out.1; omega
                have LAW1 := hide (fun (j : Nat) (hj : j < S.length) => mem_free (E := E) (hz := hz) (kp := kept.toNat) (n := (2 * t).toNat) (ep := ep) (s := s) hLE HBD.out.2 h2S hj)
                have LAW2 := hide (fun (j : Nat) (hj : j < S.length) => mem_now (E := E) (hz := hz) (kp := kept.toNat) (n := (2 * t).toNat) (ep := ep) hLE HBD.out.2 h2S hj)
                have LAW3 := hide (fun (j : Nat) (hj : j < S.length) => mem_kept (E := E) (hz := hz) (kp := kept.toNat) (n := (2 * t).toNat) (ep := ep) hLE HBD.out.2 h2S hj)
                have LAW4 := hide (end_len (E := E) (hz := hzW hz (2 * t).toNat) (kp := kept.toNat) (ep := ep) hLE HBD.out.2 HBD.out.1 HS.out.1)
                rw [hHZ.out] at LAW1 LAW2 LAW3 LAW4
                have HNE := hide (show nowEnd S E HZ0 kept.toNat ep = (swEnd R0 K0 HZ0 ep).1.map (·.1) ++ (swEnd R0 K0 HZ0 ep).2 by unfold nowEnd; rw [hR0.out, hK0.out])
                rw [hR0.out, hK0.out] at LAW3
                have HFW := hide (show ∀ x ∈ (swEnd R0 K0 HZ0 ep).1, W64 x.1 from fun x hx => (OK.out.hRw x (by have h9 := (SwRun.rk_sub (SwRun.mk s t f l p ep R0 K0 HZ0 ws F0) (SwRun.TD (SwRun.mk s t f l p ep R0 K0 HZ0 ws F0)).length).1; rw [rk_end] at h9; exact h9.subset hx)).1)
                have HKW := hide (show ∀ x ∈ (swEnd R0 K0 HZ0 ep).2, W64 x from fun x hx => (by have h9 := (SwRun.rk_sub (SwRun.mk s t f l p ep R0 K0 HZ0 ws F0) (SwRun.TD (SwRun.mk s t f l p ep R0 K0 HZ0 ws F0)).length).2; rw [rk_end] at h9; have h8 := h9.subset hx; rcases List.mem_append.1 h8 with h7 | h7; exact OK.out.hKw x h7; have h6 := (List.mem_filter.1 h7).1; obtain ⟨y, hy, rfl⟩ := List.mem_map.1 h6; exact (OK.out.hRw y (List.mem_filter.1 hy).1).1))
                have FREE := hide (fun w2 (h : RefOk w2 g wn) => (by have h9 := rfree_any g s t f l p N N wn w2 HS.out.1 HS.out.2.1 HS.out.2.2 HN.out.1 (by have h8 := hwok.1; have h7 := OK.out.hWl; have h6 : (ws.length : Int) = laySize s t f := h7; have h5 := HN.out.1; have h4 : wn.length = ws.length := h8; omega) h hwok.2.1; have h8 : frR wn s t f = _ := hwok.2.2.frR (by have h7 := HS.out.1; show (0 : Int) ≤ s; omega); rw [h8] at h9; exact h9 : Calls Tryd.prog 23 #[.agg #[.int .i64 s, .int .i64 t, .int .i64 f, .int .i64 l, .int .i64 p], .slice (some ⟨g, 0, none⟩) N N] w2 fun e w' => (∃ A c, e = .returned (.tuple #[.slice A (frEnd S E HZ0 kept.toNat ep s).length c, .bool true]) ∧ w'.ownsRow (w2.heap.size + 1) 3 1 (.slice A (frEnd S E HZ0 kept.toNat ep s).length c) (frEnd S E HZ0 kept.toNat ep s).length (ints .i64 (frEnd S E HZ0 kept.toNat ep s))) ∧ Below w2.heap.size w2 w'))
                clear hwok hLE h2S
                generalize frEnd S E HZ0 kept.toNat ep s = FE at *
                generalize nowEnd S E HZ0 kept.toNat ep = NE at *
                generalize (swEnd R0 K0 HZ0 ep).1 = RF at *
                generalize (swEnd R0 K0 HZ0 ep).2 = KF at *
                have HRL := hide hrl
                clear hrl
                have mc := fun i => xc.cell i
                go_wp2_with fail
                refine (FREE.out _ R1).mono ?_
                rintro e w2 ⟨⟨AF, cF, rfl, oF⟩, hb1⟩
                replace bs := bs.below hb1 bs.lt
                replace xc := xc.below hb1 xc.lt
                replace hst9 := hide (hst9.out.below (Nat.le_refl _) hb1)
                replace hsv := hsv.below (Nat.le_refl _) hb1
                replace B1 := B1.trans (hb1.mono B1.size)
                clear hb1 mc R1 FREE
                go_wp2_with (first | (refine wpList_load_mid rfl 51 (.tmp 21) rfl gs 0 (by rfl) cs _ bs.range Tryd.underlying51 rfl (by rw [hcl]; kernel_rfl) ?_))
                refine (hst9.out.done _).mono ?_
                rintro e w3 ⟨rfl, hb1⟩
                replace bs := bs.below hb1 bs.lt
                replace xc := xc.below hb1 xc.lt
                replace hsv := hsv.below (Nat.le_refl _) hb1
                replace oF := own_below oF hb1
                replace B1 := B1.trans (hb1.mono B1.size)
                clear hb1 hst9
                go_wp2_with (first | (refine wpList_load_mid rfl 51 (.tmp 21) rfl gs 0 (by rfl) cs _ bs.range Tryd.underlying51 rfl (by rw [hcl]; kernel_rfl) ?_))
                refine (hsv.now (by have := HRL.out; omega) (by have := HRL.out; omega)).mono ?_
                rintro e w4 ⟨⟨A3, c3, A4, c4, rfl, t1, t2⟩, hb1⟩
                replace xc := xc.below hb1 xc.lt
                replace oF := own_below oF hb1
                replace B1 := B1.trans (hb1.mono B1.size)
                clear hb1 hsv bs
                have bn := Blk.new w4 25 #[.slice none 0 0, .slice none 0 0]
                have HXW := hide xc.lt
                replace xc := xc.alloc (.cells #[.slice none 0 0, .slice none 0 0] 25)
                replace oF := oF.alloc (.cells #[.slice none 0 0, .slice none 0 0] 25)
                replace t1 := t1.alloc (.cells #[.slice none 0 0, .slice none 0 0] 25)
                replace t2 := t2.alloc (.cells #[.slice none 0 0, .slice none 0 0] 25)
                have hgn := hide B1.size
                replace B1 := B1.alloc B1.size (.cells #[.slice none 0 0, .slice none 0 0] 25)
                go_upto_block 8 with (first | (refine wpList_store_mid rfl 25 (.tmp 25) (.tmp 210) rfl w4.heap.size 0 #[.slice A3 RF.length c3, .slice A4 KF.length c4] (by rfl) (by rfl) (bn.there rfl) (by as_aux_lemma => kernel_rfl) (by as_aux_lemma => kernel_rfl) ?_; replace t1 := (show Tr ((w4.alloc (.cells #[.slice none 0 0, .slice none 0 0] 25)).setCells w4.heap.size 0 [.slice A3 RF.length c3, .slice A4 KF.length c4]) _ _ _ _ _ from by rw [putL_eq]; exact Tr.putL (by decide) _ 0 bn t1); replace t2 := (show Tr ((w4.alloc (.cells #[.slice none 0 0, .slice none 0 0] 25)).setCells w4.heap.size 0 [.slice A3 RF.length c3, .slice A4 KF.length c4]) _ _ _ _ _ from by rw [putL_eq]; exact Tr.putL (by decide) _ 0 bn t2); replace oF := (show World.ownsRow ((w4.alloc (.cells #[.slice none 0 0, .slice none 0 0] 25)).setCells w4.heap.size 0 [.slice A3 RF.length c3, .slice A4 KF.length c4]) _ _ _ _ _ _ from by rw [putL_eq]; exact own_putT (by decide) _ _ _ 0 bn oF); replace xc := (show Blk ((w4.alloc (.cells #[.slice none 0 0, .slice none 0 0] 25)).setCells w4.heap.size 0 [.slice A3 RF.length c3, .slice A4 KF.length c4]) w.heap.size 36 #[.int .i64 s, .int .i64 t, .int .i64 f, .int .i64 l, .int .i64 p] from by rw [putL_eq]; exact Blk.offL (by have h9 := HXW.out; omega) _ _ 0 xc); replace B1 := (show Below w.heap.size w ((w4.alloc (.cells #[.slice none 0 0, .slice none 0 0] 25)).setCells w4.heap.size 0 [.slice A3 RF.length c3, .slice A4 KF.length c4]) from by rw [putL_eq]; exact Below.putL hgn.out _ _ 0 B1); replace bn := (show Blk ((w4.alloc (.cells #[.slice none 0 0, .slice none 0 0] 25)).setCells w4.heap.size 0 [.slice A3 RF.length c3, .slice A4 KF.length c4]) w4.heap.size 25 #[.slice A3 RF.length c3, .slice A4 KF.length c4] from by rw [putL_eq]; have h9 := Blk.putL [.slice A3 RF.length c3, .slice A4 KF.length c4] _ _ 0 bn; simpa only [setL, List.setIfInBounds_toArray, List.set_cons_zero, List.set_cons_succ] using h9); generalize ((w4.alloc (.cells #[.slice none 0 0, .slice none 0 0] 25)).setCells w4.heap.size 0 [.slice A3 RF.length c3, .slice A4 KF.length c4]) = wE at *; generalize w4.heap.size = gn at *))
                have XE := hide (fun (w9 : World) (h : Below wE.heap.size wE w9) => xc.below h xc.lt)
                have BE := hide (fun (w9 : World) (h : Below wE.heap.size wE w9) => bn.below h bn.lt)
                have OE := hide (fun (w9 : World) (h : Below wE.heap.size wE w9) => Reads.of_own (own_below oF h))
                have TE1 := hide (fun (w9 : World) (h : Below wE.heap.size wE w9) => (t1.below (Nat.le_refl _) h).reads)
                have TE2 := hide (fun (w9 : World) (h : Below wE.heap.size wE w9) => t2.below (Nat.le_refl _) h)
                have SE := hide (fun (w9 : World) (h : Below wE.heap.size wE w9) (j : Nat) (hj : j < i) => ((HR.out.1.below (B1.trans (h.mono B1.size))).more (Nat.le_trans B1.size h.size)).word hj)
                have EE := hide (fun (w9 : World) (h : Below wE.heap.size wE w9) (j : Nat) (hj : j < nE) => ((HR.out.2.1.below (B1.trans (h.mono B1.size))).more (Nat.le_trans B1.size h.size)).word hj)
                have HE := hide (fun (w9 : World) (h : Below wE.heap.size wE w9) (j : Nat) (hj : j < nH) => ((HR.out.2.2.below (B1.trans (h.mono B1.size))).more (Nat.le_trans B1.size h.size)).word hj)
                have SLT := hide (fun (w9 : World) (h : Below wE.heap.size wE w9) => lslots_any A3 RF.length c3 RF (.slice A4 KF.length c4) KF w9 (by have := HRL.out; omega) (by have := HRL.out; omega) (TE1.out w9 h) HFW.out HKW.out (TE2.out w9 h).sl)
                rw [← HNE.out] at SLT
                have COVK := hide (fun (x : Int) (w9 : World) (h : Below wE.heap.size wE w9) => Cover_any A4 KF.length c4 KF x w9 (by have := HRL.out; omega) (TE2.out w9 h).reads)
                have HASF := hide (fun (x : Int) (w9 : World) (h : Below wE.heap.size wE w9) => rhas10_any AF FE.length cF FE x w9 (by have := LAW4.out; have := HS.out.1; omega) (OE.out w9 h))
                have BBE := hide B1
                clear B1 xc bn oF t1 t2
                go_wp2_with fail
                go_loopg [26, 27, 28, 29, 30] i (fun gh s26 _ _ _ _ wx => ∃ j : Nat, j ≤ i ∧ gh = i - j ∧ s26 = .int .i64 j ∧ Below wE.heap.size wE wx)
                case atStart => exact ⟨0, Nat.zero_le _, rfl, rfl, Below.refl _ _⟩
                case round =>
                  obtain ⟨j, hj, rfl, rfl, hE⟩ := hrel
                  have HJ := hide hj
                  clear hj
                  by_cases hlt : j < i
                  · skip
                    have hlti : (j : Int) < (i : Int) := by omega
                    obtain ⟨aS, eS, hjS, zS⟩ := SE.out wr hE j hlt
                    have WSj := HW.out.1 S[j] (List.getElem_mem _)
                    have HAB := HBD.out.1 S[j] (List.getElem_mem _)
                    have L1 := LAW1.out j hjS
                    have L2 := LAW2.out j hjS
                    have L3 := LAW3.out j hjS
                    have SEj := hide (fun (w9 : World) (h : Below wE.heap.size wE w9) => SE.out w9 h j hlt)
                    generalize hGj : S[j] = a at *
                    have HGj := hide hGj
                    clear hGj
                    subst eS
                    have ZS := hide (fun (w9 : World) (h : Below wE.heap.size wE w9) => (show w9.cell? (aS.add j) = some (.int .i64 a) from by obtain ⟨a9, e9, h8, z9⟩ := SEj.out w9 h; injection e9 with e9; subst e9; rw [HGj.out] at z9; exact z9))
                    clear SEj
                    have L3b := cover_kept ⟨HAB.1, by have := HS.out.1; omega⟩ L3
                    have HL123 := hide (And.intro L1 (And.intro L2 L3b))
                    clear L1 L2 L3 L3b
                    have HABh := hide HAB
                    clear HAB
                    go_wp2_with fail
                    refine (rhm_any 5 a _ ⟨by decide, by decide⟩ WSj).mono ?_
                    rintro e w' ⟨rfl, rfl⟩
                    clear zS
                    go_upto_region 42 with fail
                    go_cut [28] from 211 to 296 (fun s28 wx => s28 = .bool (goB E kept.toNat ep j) ∧ Below wE.heap.size wE wx)
                    case first =>
                      have hjE : j < nE := by have := HB.out.2.2; omega
                      obtain ⟨aE, eE, hjE2, zE⟩ := EE.out wr hE j hjE
                      have WE := HW.out.2.1 E[j] (List.getElem_mem _)
                      have HG1 := hide (show goB E kept.toNat ep j = (decide (j < kept.toNat) || ripeB E[j] ep) by unfold goB; rw [List.getD_eq_getElem?_getD, List.getElem?_eq_getElem hjE2]; rfl)
                      generalize E[j] = e1 at *
                      subst eE
                      have hjEi : (j : Int) < (nE : Int) := by omega
                      by_cases hk : (j : Int) < kept
                      · skip
                        have hgb : goB E kept.toNat ep j = true := by rw [HG1.out, decide_eq_true (show j < kept.toNat by omega), Bool.true_or]
                        have HGB := hide hgb
                        clear hgb
                        go_wp2_with fail
                        go_meet
                        exact ⟨by rw [HGB.out], hE⟩
                      · skip
                        have hgb : goB E kept.toNat ep j = ripeB e1 ep := by rw [HG1.out, decide_eq_false (show ¬ j < kept.toNat by omega), Bool.false_or]
                        have HGB := hide hgb
                        clear hgb
                        go_wp2_with fail
                        refine (RRipe_any 0 e1 ep _ WE HEP.out).mono ?_
                        rintro e w9 ⟨rfl, hb1⟩
                        go_wp2_with fail
                        go_meet
                        exact ⟨by rw [HGB.out], hE.trans (hb1.mono hE.size)⟩
                    case rest =>
                      obtain ⟨rfl, hE2⟩ := hcut
                      clear hE
                      generalize hgo : goB E kept.toNat ep j = gb at *
                      replace hgo := hide hgo
                      go_upto_block 10 with fail
                      go_cut [29, 30] from 211 to 296 (fun s29 _ wx => s29 = .bool (decide (a ∈ hz.take (2 * t).toNat)) ∧ Below wE.heap.size wE wx)
                      case first =>
                        go_wp2_with fail
                        go_loopg [29, 30] nH (fun gh s29 s30 wx => ∃ k : Nat, k ≤ nH ∧ (k : Int) ≤ 2 * t ∧ gh = nH - k ∧ s29 = .bool (decide (a ∈ hz.take k)) ∧ s30 = .int .i64 k ∧ Below wE.heap.size wE wx)
                        case atStart => exact ⟨0, Nat.zero_le _, by have := HS.out.2.1; omega, rfl, by rw [List.take_zero]; rfl, rfl, hE2⟩
                        case round =>
                          clear hE2
                          obtain ⟨k, hkn, hkt, rfl, rfl, rfl, hE3⟩ := hrel
                          have HKK := hide (And.intro hkn hkt)
                          clear hkn hkt
                          have mc := fun i => (XE.out _ hE3).cell i
                          have h2t : IntKind.i64.wrap (2 * t) = 2 * t := IntWalk.i64_in _ (by have := HS.out.2.1; omega)
                          by_cases hk1 : k < nH
                          · skip
                            have hk1i : (k : Int) < (nH : Int) := by omega
                            by_cases hk2 : (k : Int) < 2 * t
                            · skip
                              obtain ⟨aH, eH, hkH, zH⟩ := HE.out wr hE3 k hk1
                              generalize hGk : hz[k] = z at *
                              have CN := hide (cov_next (a := a) hkH hGk)
                              clear hGk
                              subst eH
                              have zS := ZS.out wr hE3
                              have haS : aS.block < wr.heap.size := by have h9 := HR.out.1.2 (by omega); obtain ⟨ad, e9, h8, _⟩ := h9; injection e9 with e9; rw [e9]; exact Nat.lt_of_lt_of_le h8 (Nat.le_trans BBE.out.size hE3.size)
                              have haH : aH.block < wr.heap.size := by have h9 := HR.out.2.2.2 (by omega); obtain ⟨ad, e9, h8, _⟩ := h9; injection e9 with e9; rw [e9]; exact Nat.lt_of_lt_of_le h8 (Nat.le_trans BBE.out.size hE3.size)
                              generalize hcb : decide (a ∈ hz.take k) = cb at *
                              replace hcb := hide hcb
                              cases cb with
                              | true =>
                                go_wp2_with fail
                                have hE4 := hE3.drew
                                replace zS : wr.drew.cell? (aS.add j) = some (.int .i64 a) := zS
                                replace zH : wr.drew.cell? (aH.add k) = some (.int .i64 z) := zH
                                clear mc
                                refine wp_region_heldZ [] (fun w' => w'.cell? (aS.add j) = some (.int .i64 a) ∧ w'.cell? (aH.add k) = some (.int .i64 z)) (by as_aux_lemma => kernel_rfl) (by exact ⟨zS, zH⟩) (fun hHeld => ?_)
                                refine' wpAnyZ_takeA (i := 0) (v := ?_) (opAt rfl) (by as_aux_lemma => kernel_rfl) (by as_aux_lemma => kernel_rfl) (by as_aux_lemma => kernel_rfl) (by as_aux_lemma => kernel_rfl) (fun _ _ _ h => h) (by assumption) (by rfl) (fun w hSw => ?_) ?_
                                rotate_left
                                · (try dsimp only at hSw); go_simp; (try with_reducible rfl)
                                try simp only [Act.put, List.setIfInBounds_toArray, List.set_cons_zero, List.set_cons_succ]
                                refine' wpAnyZ_takeA (i := 1) (v := ?_) (opAt rfl) (by as_aux_lemma => kernel_rfl) (by as_aux_lemma => kernel_rfl) (by as_aux_lemma => kernel_rfl) (by as_aux_lemma => kernel_rfl) (fun _ _ _ h => h) (by assumption) (by rfl) (fun w hSw => ?_) ?_
                                rotate_left
                                · (try dsimp only at hSw); go_simp; (try with_reducible rfl)
                                try simp only [Act.put, List.setIfInBounds_toArray, List.set_cons_zero, List.set_cons_succ]
                                refine' wpAnyZ_skipA (i := 2) _ rfl (opAt rfl) (by as_aux_lemma => kernel_rfl) (by as_aux_lemma => kernel_rfl) (by as_aux_lemma => kernel_rfl) (by as_aux_lemma => kernel_rfl) (fun _ _ _ h => h) (by assumption) (by rfl) ?_
                                try simp only [Act.put, List.setIfInBounds_toArray, List.set_cons_zero, List.set_cons_succ]
                                refine' wpAnyZ_skipA (i := 3) _ rfl (opAt rfl) (by as_aux_lemma => kernel_rfl) (by as_aux_lemma => kernel_rfl) (by as_aux_lemma => kernel_rfl) (by as_aux_lemma => kernel_rfl) (fun _ _ _ h => h) (by assumption) (by rfl) ?_
                                try simp only [Act.put, List.setIfInBounds_toArray, List.set_cons_zero, List.set_cons_succ]
                                refine' wpAnyZ_skipA (i := 4) _ rfl (opAt rfl) (by as_aux_lemma => kernel_rfl) (by as_aux_lemma => kernel_rfl) (by as_aux_lemma => kernel_rfl) (by as_aux_lemma => kernel_rfl) (fun _ _ _ h => h) (by assumption) (by rfl) ?_
                                try simp only [Act.put, List.setIfInBounds_toArray, List.set_cons_zero, List.set_cons_succ]
                                refine' wpAnyZ_skipA (i := 5) _ rfl (opAt rfl) (by as_aux_lemma => kernel_rfl) (by as_aux_lemma => kernel_rfl) (by as_aux_lemma => kernel_rfl) (by as_aux_lemma => kernel_rfl) (fun _ _ _ h => h) (by assumption) (by rfl) ?_
                                try simp only [Act.put, List.setIfInBounds_toArray, List.set_cons_zero, List.set_cons_succ]
                                refine' wpAnyZ_skipA (i := 6) _ rfl (opAt rfl) (by as_aux_lemma => kernel_rfl) (by as_aux_lemma => kernel_rfl) (by as_aux_lemma => kernel_rfl) (by as_aux_lemma => kernel_rfl) (fun _ _ _ h => h) (by assumption) (by rfl) ?_
                                try simp only [Act.put, List.setIfInBounds_toArray, List.set_cons_zero, List.set_cons_succ]
                                refine' wpAnyZ_skipA (i := 7) _ rfl (opAt rfl) (by as_aux_lemma => kernel_rfl) (by as_aux_lemma => kernel_rfl) (by as_aux_lemma => kernel_rfl) (by as_aux_lemma => kernel_rfl) (fun _ _ _ h => h) (by assumption) (by rfl) ?_
                                try simp only [Act.put, List.setIfInBounds_toArray, List.set_cons_zero, List.set_cons_succ]
                                refine' wpAnyZ_skipA (i := 8) _ rfl (opAt rfl) (by as_aux_lemma => kernel_rfl) (by as_aux_lemma => kernel_rfl) (by as_aux_lemma => kernel_rfl) (by as_aux_lemma => kernel_rfl) (fun _ _ _ h => h) (by assumption) (by rfl) ?_
                                try simp only [Act.put, List.setIfInBounds_toArray, List.set_cons_zero, List.set_cons_succ]
                                refine' wpAnyZ_skipA (i := 9) _ rfl (opAt rfl) (by as_aux_lemma => kernel_rfl) (by as_aux_lemma => kernel_rfl) (by as_aux_lemma => kernel_rfl) (by as_aux_lemma => kernel_rfl) (fun _ _ _ h => h) (by assumption) (by rfl) ?_
                                try simp only [Act.put, List.setIfInBounds_toArray, List.set_cons_zero, List.set_cons_succ]
                                refine' wpAnyZ_skipA (i := 10) _ rfl (opAt rfl) (by as_aux_lemma => kernel_rfl) (by as_aux_lemma => kernel_rfl) (by as_aux_lemma => kernel_rfl) (by as_aux_lemma => kernel_rfl) (fun _ _ _ h => h) (by assumption) (by rfl) ?_
                                try simp only [Act.put, List.setIfInBounds_toArray, List.set_cons_zero, List.set_cons_succ]
                                refine' wpAnyZ_takeA (i := 11) (v := ?_) (opAt rfl) (by as_aux_lemma => kernel_rfl) (by as_aux_lemma => kernel_rfl) (by as_aux_lemma => kernel_rfl) (by as_aux_lemma => kernel_rfl) (fun _ _ _ h => h) (by assumption) (by rfl) (fun w hSw => ?_) ?_
                                rotate_left
                                · (try dsimp only at hSw); go_simp; (try with_reducible rfl)
                                try simp only [Act.put, List.setIfInBounds_toArray, List.set_cons_zero, List.set_cons_succ]
                                refine' wpAnyZ_takeA (i := 12) (v := ?_) (opAt rfl) (by as_aux_lemma => kernel_rfl) (by as_aux_lemma => kernel_rfl) (by as_aux_lemma => kernel_rfl) (by as_aux_lemma => kernel_rfl) (fun _ _ _ h => h) (by assumption) (by rfl) (fun w hSw => ?_) ?_
                                rotate_left
                                · (try dsimp only at hSw); go_simp; (try with_reducible rfl)
                                try simp only [Act.put, List.setIfInBounds_toArray, List.set_cons_zero, List.set_cons_succ]
                                refine wpAnyZ_done (by as_aux_lemma => kernel_rfl) ?_ _
                                clear hHeld
                                go_wp2_with fail
                                go_roundg (nH - (k + 1))
                                case measure => omega
                                case rel => exact ⟨k + 1, hk1, by omega, rfl, by rw [CN.out]; rfl, by go_num, hE4⟩
                              | false =>
                                go_wp2_with fail
                                have hE4 := hE3.drew
                                replace zS : wr.drew.cell? (aS.add j) = some (.int .i64 a) := zS
                                replace zH : wr.drew.cell? (aH.add k) = some (.int .i64 z) := zH
                                clear mc
                                refine wp_region_heldZ [] (fun w' => w'.cell? (aS.add j) = some (.int .i64 a) ∧ w'.cell? (aH.add k) = some (.int .i64 z)) (by as_aux_lemma => kernel_rfl) (by exact ⟨zS, zH⟩) (fun hHeld => ?_)
                                refine' wpAnyZ_takeA (i := 0) (v := ?_) (opAt rfl) (by as_aux_lemma => kernel_rfl) (by as_aux_lemma => kernel_rfl) (by as_aux_lemma => kernel_rfl) (by as_aux_lemma => kernel_rfl) (fun _ _ _ h => h) (by assumption) (by rfl) (fun w hSw => ?_) ?_
                                rotate_left
                                · (try dsimp only at hSw); go_simp; (try with_reducible rfl)
                                try simp only [Act.put, List.setIfInBounds_toArray, List.set_cons_zero, List.set_cons_succ]
                                refine' wpAnyZ_takeA (i := 1) (v := ?_) (opAt rfl) (by as_aux_lemma => kernel_rfl) (by as_aux_lemma => kernel_rfl) (by as_aux_lemma => kernel_rfl) (by as_aux_lemma => kernel_rfl) (fun _ _ _ h => h) (by assumption) (by rfl) (fun w hSw => ?_) ?_
                                rotate_left
                                · (try dsimp only at hSw); go_simp; (try with_reducible rfl)
                                try simp only [Act.put, List.setIfInBounds_toArray, List.set_cons_zero, List.set_cons_succ]
                                refine' wpAnyZ_takeA (i := 2) (v := ?_) (opAt rfl) (by as_aux_lemma => kernel_rfl) (by as_aux_lemma => kernel_rfl) (by as_aux_lemma => kernel_rfl) (by as_aux_lemma => kernel_rfl) (fun _ _ _ h => h) (by assumption) (by rfl) (fun w hSw => ?_) ?_
                                rotate_left
                                · (try dsimp only at hSw); go_simp; (try with_reducible rfl)
                                try simp only [Act.put, List.setIfInBounds_toArray, List.set_cons_zero, List.set_cons_succ]
                                refine' wpAnyZ_takeA (i := 3) (v := ?_) (opAt rfl) (by as_aux_lemma => kernel_rfl) (by as_aux_lemma => kernel_rfl) (by as_aux_lemma => kernel_rfl) (by as_aux_lemma => kernel_rfl) (fun _ _ _ h => h) (by assumption) (by rfl) (fun w hSw => ?_) ?_
                                rotate_left
                                · (try dsimp only at hSw); go_simp; (try with_reducible rfl)
                                try simp only [Act.put, List.setIfInBounds_toArray, List.set_cons_zero, List.set_cons_succ]
                                refine' wpAnyZ_takeA (i := 4) (v := ?_) (opAt rfl) (by as_aux_lemma => kernel_rfl) (by as_aux_lemma => kernel_rfl) (by as_aux_lemma => kernel_rfl) (by as_aux_lemma => kernel_rfl) (fun _ _ _ h => h) (by assumption) (by rfl) (fun w hSw => ?_) ?_
                                rotate_left
                                · (try dsimp only at hSw); go_simp; (try with_reducible rfl)
                                try simp only [Act.put, List.setIfInBounds_toArray, List.set_cons_zero, List.set_cons_succ]
                                refine' wpAnyZ_takeA (i := 5) (v := ?_) (opAt rfl) (by as_aux_lemma => kernel_rfl) (by as_aux_lemma => kernel_rfl) (by as_aux_lemma => kernel_rfl) (by as_aux_lemma => kernel_rfl) (fun _ _ _ h => h) (by assumption) (by rfl) (fun w hSw => ?_) ?_
                                rotate_left
                                · (try dsimp only at hSw); go_simp; (try with_reducible rfl)
                                try simp only [Act.put, List.setIfInBounds_toArray, List.set_cons_zero, List.set_cons_succ]
                                refine' wpAnyZ_takeA (i := 6) (v := ?_) (opAt rfl) (by as_aux_lemma => kernel_rfl) (by as_aux_lemma => kernel_rfl) (by as_aux_lemma => kernel_rfl) (by as_aux_lemma => kernel_rfl) (fun _ _ _ h => h) (by assumption) (by rfl) (fun w hSw => ?_) ?_
                                rotate_left
                                · (try dsimp only at hSw); go_simp; (try with_reducible rfl)
                                try simp only [Act.put, List.setIfInBounds_toArray, List.set_cons_zero, List.set_cons_succ]
                                refine' wpAnyZ_takeA (i := 7) (v := ?_) (opAt rfl) (by as_aux_lemma => kernel_rfl) (by as_aux_lemma => kernel_rfl) (by as_aux_lemma => kernel_rfl) (by as_aux_lemma => kernel_rfl) (fun _ _ _ h => h) (by assumption) (by rfl) (fun w hSw => ?_) ?_
                                rotate_left
                                · (try dsimp only at hSw); go_simp; (try with_reducible rfl)
                                try simp only [Act.put, List.setIfInBounds_toArray, List.set_cons_zero, List.set_cons_succ]
                                refine' wpAnyZ_takeA (i := 8) (v := ?_) (opAt rfl) (by as_aux_lemma => kernel_rfl) (by as_aux_lemma => kernel_rfl) (by as_aux_lemma => kernel_rfl) (by as_aux_lemma => kernel_rfl) (fun _ _ _ h => h) (by assumption) (by rfl) (fun w hSw => ?_) ?_
                                rotate_left
                                · (try dsimp only at hSw); go_simp; (try with_reducible rfl)
                                try simp only [Act.put, List.setIfInBounds_toArray, List.set_cons_zero, List.set_cons_succ]
                                refine' wpAnyZ_takeA (i := 9) (v := ?_) (opAt rfl) (by as_aux_lemma => kernel_rfl) (by as_aux_lemma => kernel_rfl) (by as_aux_lemma => kernel_rfl) (by as_aux_lemma => kernel_rfl) (fun _ _ _ h => h) (by assumption) (by rfl) (fun w hSw => ?_) ?_
                                rotate_left
                                · (try dsimp only at hSw); go_simp; (try with_reducible rfl)
                                try simp only [Act.put, List.setIfInBounds_toArray, List.set_cons_zero, List.set_cons_succ]
                                refine' wpAnyZ_takeA (i := 10) (v := ?_) (opAt rfl) (by as_aux_lemma => kernel_rfl) (by as_aux_lemma => kernel_rfl) (by as_aux_lemma => kernel_rfl) (by as_aux_lemma => kernel_rfl) (fun _ _ _ h => h) (by assumption) (by rfl) (fun w hSw => ?_) ?_
                                rotate_left
                                · (try dsimp only at hSw); go_simp; (try with_reducible rfl)
                                try simp only [Act.put, List.setIfInBounds_toArray, List.set_cons_zero, List.set_cons_succ]
                                refine' wpAnyZ_takeA (i := 11) (v := ?_) (opAt rfl) (by as_aux_lemma => kernel_rfl) (by as_aux_lemma => kernel_rfl) (by as_aux_lemma => kernel_rfl) (by as_aux_lemma => kernel_rfl) (fun _ _ _ h => h) (by assumption) (by rfl) (fun w hSw => ?_) ?_
                                rotate_left
                                · (try dsimp only at hSw); go_simp; (try with_reducible rfl)
                                try simp only [Act.put, List.setIfInBounds_toArray, List.set_cons_zero, List.set_cons_succ]
                                refine' wpAnyZ_takeA (i := 12) (v := ?_) (opAt rfl) (by as_aux_lemma => kernel_rfl) (by as_aux_lemma => kernel_rfl) (by as_aux_lemma => kernel_rfl) (by as_aux_lemma => kernel_rfl) (fun _ _ _ h => h) (by assumption) (by rfl) (fun w hSw => ?_) ?_
                                rotate_left
                                · (try dsimp only at hSw); go_simp; (try with_reducible rfl)
                                try simp only [Act.put, List.setIfInBounds_toArray, List.set_cons_zero, List.set_cons_succ]
                                refine wpAnyZ_done (by as_aux_lemma => kernel_rfl) ?_ _
                                clear hHeld
                                go_wp2_with fail
                                go_roundg (nH - (k + 1))
                                case measure => omega
                                case rel => exact ⟨k + 1, hk1, by omega, rfl, by rw [CN.out]; rfl, by go_num, hE4⟩
                            · skip
                              go_wp2_with fail
                              go_meet
                              exact ⟨by rw [cov_end (hz := hz) (k := k) (T := (2 * t).toNat) (.inl (by have := HKK.out; omega))], hE3⟩
                          · skip
                            have hk1i : ¬ (k : Int) < (nH : Int) := by omega
                            go_wp2_with fail
                            go_meet
                            exact ⟨by rw [cov_end (hz := hz) (k := k) (T := (2 * t).toNat) (.inr ⟨by have := HKK.out; have := HL.out; omega, by have := HKK.out; omega⟩)], hE3⟩
                      case rest =>
                        obtain ⟨rfl, hE3⟩ := hcut
                        clear hE2
                        have L123 := HL123.out
                        generalize decide (a ∈ hz.take (2 * t).toNat) = cb at *
                        have HASA := hide (fun w9 h => HASF.out a w9 h)
                        have CVA := hide (fun w9 h => COVK.out (hmk 5 a) w9 h)
                        rw [L123.1] at HASA
                        rw [show coverB KF (hmk 5 a) = (gb && cb) from L123.2.2] at CVA
                        have HASB := hide (fun (A5 : Option Addr) (m c5 : Nat) (w9 : World) (h : Reads w9 w9.heap.size 1 A5 m (ints .i64 (slL NE))) (hm : m ≤ 1000000) => rhas10_any A5 m c5 (slL NE) a w9 hm h)
                        rw [L123.2.1] at HASB
                        clear L123
                        have zS := ZS.out _ hE3
                        have HEB := hide (show NE.length ≤ 1000 by have := LAW4.out; have := HS.out.1; omega)
                        cases gb with
                        | true =>
                          cases cb with
                          | true =>
                            as_aux_lemma =>
                              simp only [Bool.not_true, Bool.not_false, Bool.and_true, Bool.and_false, Bool.true_and, Bool.false_and] at HASA HASB CVA
                              go_wp2_with fail
                              have hE4 := hE3.drew
                              clear zS
                              refine wp_region_heldZ [] (fun w' => w'.cell? (aS.add j) = some (.int .i64 a) ∧ w'.cell? ⟨gn, 0, none⟩ = some (.slice A3 RF.length c3) ∧ w'.cell? ⟨gn, 1, none⟩ = some (.slice A4 KF.length c4)) (by as_aux_lemma => kernel_rfl) (by exact ⟨ZS.out _ hE4, (BE.out _ hE4).cell 0, (BE.out _ hE4).cell 1⟩) (fun hHeld => ?_)
                              generalize wc.drew = wd at *
                              refine' wpAnyZ_takeA (i := 0) (v := ?_) (opAt rfl) (by as_aux_lemma => kernel_rfl) (by as_aux_lemma => kernel_rfl) (by as_aux_lemma => kernel_rfl) (by as_aux_lemma => kernel_rfl) (fun _ _ _ h => h) (by assumption) (by rfl) (fun w hSw => ?_) ?_
                              rotate_left
                              · (try dsimp only at hSw); go_simp; (try with_reducible rfl)
                              try simp only [Act.put, List.setIfInBounds_toArray, List.set_cons_zero, List.set_cons_succ]
                              refine' wpAnyZ_takeA (i := 1) (v := ?_) (opAt rfl) (by as_aux_lemma => kernel_rfl) (by as_aux_lemma => kernel_rfl) (by as_aux_lemma => kernel_rfl) (by as_aux_lemma => kernel_rfl) (fun _ _ _ h => h) (by assumption) (by rfl) (fun w hSw => ?_) ?_
                              rotate_left
                              · (try dsimp only at hSw); go_simp; (try with_reducible rfl)
                              try simp only [Act.put, List.setIfInBounds_toArray, List.set_cons_zero, List.set_cons_succ]
                              refine' wpAnyZ_takeA (i := 2) (v := ?_) (opAt rfl) (by as_aux_lemma => kernel_rfl) (by as_aux_lemma => kernel_rfl) (by as_aux_lemma => kernel_rfl) (by as_aux_lemma => kernel_rfl) (fun _ _ _ h => h) (by assumption) (by rfl) (fun w hSw => ?_) ?_
                              rotate_left
                              · (try dsimp only at hSw); go_simp; (try with_reducible rfl)
                              try simp only [Act.put, List.setIfInBounds_toArray, List.set_cons_zero, List.set_cons_succ]
                              refine' wpAnyZ_takeA (i := 3) (v := ?_) (opAt rfl) (by as_aux_lemma => kernel_rfl) (by as_aux_lemma => kernel_rfl) (by as_aux_lemma => kernel_rfl) (by as_aux_lemma => kernel_rfl) (fun _ _ _ h => h) (by assumption) (by rfl) (fun w hSw => ?_) ?_
                              rotate_left
                              · (try dsimp only at hSw); go_simp; (try with_reducible rfl)
                              try simp only [Act.put, List.setIfInBounds_toArray, List.set_cons_zero, List.set_cons_succ]
                              refine' wpAnyZ_takeA (i := 4) (v := ?_) (opAt rfl) (by as_aux_lemma => kernel_rfl) (by as_aux_lemma => kernel_rfl) (by as_aux_lemma => kernel_rfl) (by as_aux_lemma => kernel_rfl) (fun _ _ _ h => h) (by assumption) (by rfl) (fun w hSw => ?_) ?_
                              rotate_left
                              · (try dsimp only at hSw); go_simp; (try with_reducible rfl)
                              try simp only [Act.put, List.setIfInBounds_toArray, List.set_cons_zero, List.set_cons_succ]
                              refine' wpAnyZ_takeA (i := 6) (v := ?_) (opAt rfl) (by as_aux_lemma => kernel_rfl) (by as_aux_lemma => kernel_rfl) (by as_aux_lemma => kernel_rfl) (by as_aux_lemma => kernel_rfl) (fun _ _ _ h => h) (by assumption) (by rfl) (fun w hSw => ?_) ?_
                              rotate_left
                              · (try dsimp only at hSw); go_simp; (try with_reducible rfl)
                              try simp only [Act.put, List.setIfInBounds_toArray, List.set_cons_zero, List.set_cons_succ]
                              refine wpAnyZ_ready (rs := [5]) (by as_aux_lemma => kernel_rfl) (by simp) ?_
                              refine AllReadyZ.cons (opAt rfl) (fun K hK => ?_) ?_
                              · skip
                                go_simp
                                refine (HASA.out _ hE4).mono ?_
                                rintro e w5 ⟨rfl, hb1⟩
                                replace hE4 := hE4.trans (hb1.mono hE4.size)
                                clear hb1
                                try go_wp2_with fail
                                refine hK.out _ _ (by exact ⟨ZS.out _ hE4, (BE.out _ hE4).cell 0, (BE.out _ hE4).cell 1⟩) (fun hHeld => ?_)
                                clear hK K
                                try simp only [Act.put, List.setIfInBounds_toArray, List.set_cons_zero, List.set_cons_succ]
                                refine' wpAnyZ_takeA (i := 7) (v := ?_) (opAt rfl) (by as_aux_lemma => kernel_rfl) (by as_aux_lemma => kernel_rfl) (by as_aux_lemma => kernel_rfl) (by as_aux_lemma => kernel_rfl) (fun _ _ _ h => h) (by assumption) (by rfl) (fun w hSw => ?_) ?_
                                rotate_left
                                · (try dsimp only at hSw); go_simp; (try with_reducible rfl)
                                try simp only [Act.put, List.setIfInBounds_toArray, List.set_cons_zero, List.set_cons_succ]
                                refine' wpAnyZ_takeA (i := 8) (v := ?_) (opAt rfl) (by as_aux_lemma => kernel_rfl) (by as_aux_lemma => kernel_rfl) (by as_aux_lemma => kernel_rfl) (by as_aux_lemma => kernel_rfl) (fun _ _ _ h => h) (by assumption) (by rfl) (fun w hSw => ?_) ?_
                                rotate_left
                                · (try dsimp only at hSw); go_simp; (try with_reducible rfl)
                                try simp only [Act.put, List.setIfInBounds_toArray, List.set_cons_zero, List.set_cons_succ]
                                refine' wpAnyZ_takeA (i := 9) (v := ?_) (opAt rfl) (by as_aux_lemma => kernel_rfl) (by as_aux_lemma => kernel_rfl) (by as_aux_lemma => kernel_rfl) (by as_aux_lemma => kernel_rfl) (fun _ _ _ h => h) (by assumption) (by rfl) (fun w hSw => ?_) ?_
                                rotate_left
                                · (try dsimp only at hSw); go_simp; (try with_reducible rfl)
                                try simp only [Act.put, List.setIfInBounds_toArray, List.set_cons_zero, List.set_cons_succ]
                                refine' wpAnyZ_takeA (i := 10) (v := ?_) (opAt rfl) (by as_aux_lemma => kernel_rfl) (by as_aux_lemma => kernel_rfl) (by as_aux_lemma => kernel_rfl) (by as_aux_lemma => kernel_rfl) (fun _ _ _ h => h) (by assumption) (by rfl) (fun w hSw => ?_) ?_
                                rotate_left
                                · (try dsimp only at hSw); go_simp; (try with_reducible rfl)
                                try simp only [Act.put, List.setIfInBounds_toArray, List.set_cons_zero, List.set_cons_succ]
                                refine' wpAnyZ_takeA (i := 11) (v := ?_) (opAt rfl) (by as_aux_lemma => kernel_rfl) (by as_aux_lemma => kernel_rfl) (by as_aux_lemma => kernel_rfl) (by as_aux_lemma => kernel_rfl) (fun _ _ _ h => h) (by assumption) (by rfl) (fun w hSw => ?_) ?_
                                rotate_left
                                · (try dsimp only at hSw); go_simp; (try with_reducible rfl)
                                try simp only [Act.put, List.setIfInBounds_toArray, List.set_cons_zero, List.set_cons_succ]
                                refine' wpAnyZ_takeA (i := 12) (v := ?_) (opAt rfl) (by as_aux_lemma => kernel_rfl) (by as_aux_lemma => kernel_rfl) (by as_aux_lemma => kernel_rfl) (by as_aux_lemma => kernel_rfl) (fun _ _ _ h => h) (by assumption) (by rfl) (fun w hSw => ?_) ?_
                                rotate_left
                                · (try dsimp only at hSw); go_simp; (try with_reducible rfl)
                                try simp only [Act.put, List.setIfInBounds_toArray, List.set_cons_zero, List.set_cons_succ]
                                refine' wpAnyZ_takeA (i := 13) (v := ?_) (opAt rfl) (by as_aux_lemma => kernel_rfl) (by as_aux_lemma => kernel_rfl) (by as_aux_lemma => kernel_rfl) (by as_aux_lemma => kernel_rfl) (fun _ _ _ h => h) (by assumption) (by rfl) (fun w hSw => ?_) ?_
                                rotate_left
                                · (try dsimp only at hSw); go_simp; (try with_reducible rfl)
                                try simp only [Act.put, List.setIfInBounds_toArray, List.set_cons_zero, List.set_cons_succ]
                                refine' wpAnyZ_takeA (i := 15) (v := ?_) (opAt rfl) (by as_aux_lemma => kernel_rfl) (by as_aux_lemma => kernel_rfl) (by as_aux_lemma => kernel_rfl) (by as_aux_lemma => kernel_rfl) (fun _ _ _ h => h) (by assumption) (by rfl) (fun w hSw => ?_) ?_
                                rotate_left
                                · (try dsimp only at hSw); go_simp; (try with_reducible rfl)
                                try simp only [Act.put, List.setIfInBounds_toArray, List.set_cons_zero, List.set_cons_succ]
                                refine' wpAnyZ_takeA (i := 16) (v := ?_) (opAt rfl) (by as_aux_lemma => kernel_rfl) (by as_aux_lemma => kernel_rfl) (by as_aux_lemma => kernel_rfl) (by as_aux_lemma => kernel_rfl) (fun _ _ _ h => h) (by assumption) (by rfl) (fun w hSw => ?_) ?_
                                rotate_left
                                · (try dsimp only at hSw); go_simp; (try with_reducible rfl)
                                try simp only [Act.put, List.setIfInBounds_toArray, List.set_cons_zero, List.set_cons_succ]
                                refine' wpAnyZ_takeA (i := 17) (v := ?_) (opAt rfl) (by as_aux_lemma => kernel_rfl) (by as_aux_lemma => kernel_rfl) (by as_aux_lemma => kernel_rfl) (by as_aux_lemma => kernel_rfl) (fun _ _ _ h => h) (by assumption) (by rfl) (fun w hSw => ?_) ?_
                                rotate_left
                                · (try dsimp only at hSw); go_simp; (try with_reducible rfl)
                                try simp only [Act.put, List.setIfInBounds_toArray, List.set_cons_zero, List.set_cons_succ]
                                refine' wpAnyZ_takeA (i := 18) (v := ?_) (opAt rfl) (by as_aux_lemma => kernel_rfl) (by as_aux_lemma => kernel_rfl) (by as_aux_lemma => kernel_rfl) (by as_aux_lemma => kernel_rfl) (fun _ _ _ h => h) (by assumption) (by rfl) (fun w hSw => ?_) ?_
                                rotate_left
                                · (try dsimp only at hSw); go_simp; (try with_reducible rfl)
                                try simp only [Act.put, List.setIfInBounds_toArray, List.set_cons_zero, List.set_cons_succ]
                                refine' wpAnyZ_takeA (i := 20) (v := ?_) (opAt rfl) (by as_aux_lemma => kernel_rfl) (by as_aux_lemma => kernel_rfl) (by as_aux_lemma => kernel_rfl) (by as_aux_lemma => kernel_rfl) (fun _ _ _ h => h) (by assumption) (by rfl) (fun w hSw => ?_) ?_
                                rotate_left
                                · (try dsimp only at hSw); go_simp; (try with_reducible rfl)
                                try simp only [Act.put, List.setIfInBounds_toArray, List.set_cons_zero, List.set_cons_succ]
                                refine wpAnyZ_ready (rs := [14]) (by as_aux_lemma => kernel_rfl) (by simp) ?_
                                refine AllReadyZ.cons (opAt rfl) (fun K hK => ?_) ?_
                                · skip
                                  go_simp
                                  refine (SLT.out _ hE4).mono ?_
                                  rintro e w6 ⟨⟨A5, m5, c5, rfl, hm5, o5⟩, hb1⟩
                                  have r5 := Reads.of_own o5
                                  have HM5 := hide (show m5 ≤ 1000000 by have := HEB.out; omega)
                                  clear o5 hm5
                                  replace hE4 := hE4.trans (hb1.mono hE4.size)
                                  clear hb1
                                  try go_wp2_with fail
                                  refine hK.out _ _ (by exact ⟨ZS.out _ hE4, (BE.out _ hE4).cell 0, (BE.out _ hE4).cell 1⟩) (fun hHeld => ?_)
                                  clear hK K
                                  try simp only [Act.put, List.setIfInBounds_toArray, List.set_cons_zero, List.set_cons_succ]
                                  refine wpAnyZ_ready (rs := [19]) (by as_aux_lemma => kernel_rfl) (by simp) ?_
                                  refine AllReadyZ.cons (opAt rfl) (fun K hK => ?_) ?_
                                  · skip
                                    go_simp
                                    refine (HASB.out _ _ _ _ r5 HM5.out).mono ?_
                                    rintro e w7 ⟨rfl, hb1⟩
                                    clear r5
                                    replace hE4 := hE4.trans (hb1.mono hE4.size)
                                    clear hb1
                                    try go_wp2_with fail
                                    refine hK.out _ _ (by exact ⟨ZS.out _ hE4, (BE.out _ hE4).cell 0, (BE.out _ hE4).cell 1⟩) (fun hHeld => ?_)
                                    clear hK K
                                    try simp only [Act.put, List.setIfInBounds_toArray, List.set_cons_zero, List.set_cons_succ]
                                    refine' wpAnyZ_takeA (i := 21) (v := ?_) (opAt rfl) (by as_aux_lemma => kernel_rfl) (by as_aux_lemma => kernel_rfl) (by as_aux_lemma => kernel_rfl) (by as_aux_lemma => kernel_rfl) (fun _ _ _ h => h) (by assumption) (by rfl) (fun w hSw => ?_) ?_
                                    rotate_left
                                    · (try dsimp only at hSw); go_simp; (try with_reducible rfl)
                                    try simp only [Act.put, List.setIfInBounds_toArray, List.set_cons_zero, List.set_cons_succ]
                                    refine' wpAnyZ_takeA (i := 22) (v := ?_) (opAt rfl) (by as_aux_lemma => kernel_rfl) (by as_aux_lemma => kernel_rfl) (by as_aux_lemma => kernel_rfl) (by as_aux_lemma => kernel_rfl) (fun _ _ _ h => h) (by assumption) (by rfl) (fun w hSw => ?_) ?_
                                    rotate_left
                                    · (try dsimp only at hSw); go_simp; (try with_reducible rfl)
                                    try simp only [Act.put, List.setIfInBounds_toArray, List.set_cons_zero, List.set_cons_succ]
                                    refine' wpAnyZ_takeA (i := 23) (v := ?_) (opAt rfl) (by as_aux_lemma => kernel_rfl) (by as_aux_lemma => kernel_rfl) (by as_aux_lemma => kernel_rfl) (by as_aux_lemma => kernel_rfl) (fun _ _ _ h => h) (by assumption) (by rfl) (fun w hSw => ?_) ?_
                                    rotate_left
                                    · (try dsimp only at hSw); go_simp; (try with_reducible rfl)
                                    try simp only [Act.put, List.setIfInBounds_toArray, List.set_cons_zero, List.set_cons_succ]
                                    refine' wpAnyZ_takeA (i := 24) (v := ?_) (opAt rfl) (by as_aux_lemma => kernel_rfl) (by as_aux_lemma => kernel_rfl) (by as_aux_lemma => kernel_rfl) (by as_aux_lemma => kernel_rfl) (fun _ _ _ h => h) (by assumption) (by rfl) (fun w hSw => ?_) ?_
                                    rotate_left
                                    · (try dsimp only at hSw); go_simp; (try with_reducible rfl)
                                    try simp only [Act.put, List.setIfInBounds_toArray, List.set_cons_zero, List.set_cons_succ]
                                    refine' wpAnyZ_takeA (i := 25) (v := ?_) (opAt rfl) (by as_aux_lemma => kernel_rfl) (by as_aux_lemma => kernel_rfl) (by as_aux_lemma => kernel_rfl) (by as_aux_lemma => kernel_rfl) (fun _ _ _ h => h) (by assumption) (by rfl) (fun w hSw => ?_) ?_
                                    rotate_left
                                    · (try dsimp only at hSw); go_simp; (try with_reducible rfl)
                                    try simp only [Act.put, List.setIfInBounds_toArray, List.set_cons_zero, List.set_cons_succ]
                                    refine' wpAnyZ_takeA (i := 26) (v := ?_) (opAt rfl) (by as_aux_lemma => kernel_rfl) (by as_aux_lemma => kernel_rfl) (by as_aux_lemma => kernel_rfl) (by as_aux_lemma => kernel_rfl) (fun _ _ _ h => h) (by assumption) (by rfl) (fun w hSw => ?_) ?_
                                    rotate_left
                                    · (try dsimp only at hSw); go_simp; (try with_reducible rfl)
                                    try simp only [Act.put, List.setIfInBounds_toArray, List.set_cons_zero, List.set_cons_succ]
                                    refine' wpAnyZ_takeA (i := 27) (v := ?_) (opAt rfl) (by as_aux_lemma => kernel_rfl) (by as_aux_lemma => kernel_rfl) (by as_aux_lemma => kernel_rfl) (by as_aux_lemma => kernel_rfl) (fun _ _ _ h => h) (by assumption) (by rfl) (fun w hSw => ?_) ?_
                                    rotate_left
                                    · (try dsimp only at hSw); go_simp; (try with_reducible rfl)
                                    try simp only [Act.put, List.setIfInBounds_toArray, List.set_cons_zero, List.set_cons_succ]
                                    refine' wpAnyZ_takeA (i := 28) (v := ?_) (opAt rfl) (by as_aux_lemma => kernel_rfl) (by as_aux_lemma => kernel_rfl) (by as_aux_lemma => kernel_rfl) (by as_aux_lemma => kernel_rfl) (fun _ _ _ h => h) (by assumption) (by rfl) (fun w hSw => ?_) ?_
                                    rotate_left
                                    · (try dsimp only at hSw); go_simp; (try with_reducible rfl)
                                    try simp only [Act.put, List.setIfInBounds_toArray, List.set_cons_zero, List.set_cons_succ]
                                    refine' wpAnyZ_takeA (i := 29) (v := ?_) (opAt rfl) (by as_aux_lemma => kernel_rfl) (by as_aux_lemma => kernel_rfl) (by as_aux_lemma => kernel_rfl) (by as_aux_lemma => kernel_rfl) (fun _ _ _ h => h) (by assumption) (by rfl) (fun w hSw => ?_) ?_
                                    rotate_left
                                    · (try dsimp only at hSw); go_simp; (try with_reducible rfl)
                                    try simp only [Act.put, List.setIfInBounds_toArray, List.set_cons_zero, List.set_cons_succ]
                                    refine' wpAnyZ_takeA (i := 30) (v := ?_) (opAt rfl) (by as_aux_lemma => kernel_rfl) (by as_aux_lemma => kernel_rfl) (by as_aux_lemma => kernel_rfl) (by as_aux_lemma => kernel_rfl) (fun _ _ _ h => h) (by assumption) (by rfl) (fun w hSw => ?_) ?_
                                    rotate_left
                                    · (try dsimp only at hSw); go_simp; (try with_reducible rfl)
                                    try simp only [Act.put, List.setIfInBounds_toArray, List.set_cons_zero, List.set_cons_succ]
                                    refine' wpAnyZ_takeA (i := 32) (v := ?_) (opAt rfl) (by as_aux_lemma => kernel_rfl) (by as_aux_lemma => kernel_rfl) (by as_aux_lemma => kernel_rfl) (by as_aux_lemma => kernel_rfl) (fun _ _ _ h => h) (by assumption) (by rfl) (fun w hSw => ?_) ?_
                                    rotate_left
                                    · (try dsimp only at hSw); go_simp; (try with_reducible rfl)
                                    try simp only [Act.put, List.setIfInBounds_toArray, List.set_cons_zero, List.set_cons_succ]
                                    refine wpAnyZ_ready (rs := [31]) (by as_aux_lemma => kernel_rfl) (by simp) ?_
                                    refine AllReadyZ.cons (opAt rfl) (fun K hK => ?_) ?_
                                    · skip
                                      go_simp
                                      refine (CVA.out _ hE4).mono ?_
                                      rintro e w8 ⟨rfl, hb1⟩
                                      replace hE4 := hE4.trans (hb1.mono hE4.size)
                                      clear hb1
                                      try go_wp2_with fail
                                      refine hK.out _ _ (by exact ⟨ZS.out _ hE4, (BE.out _ hE4).cell 0, (BE.out _ hE4).cell 1⟩) (fun hHeld => ?_)
                                      clear hK K
                                      try simp only [Act.put, List.setIfInBounds_toArray, List.set_cons_zero, List.set_cons_succ]
                                      refine' wpAnyZ_takeA (i := 33) (v := ?_) (opAt rfl) (by as_aux_lemma => kernel_rfl) (by as_aux_lemma => kernel_rfl) (by as_aux_lemma => kernel_rfl) (by as_aux_lemma => kernel_rfl) (fun _ _ _ h => h) (by assumption) (by rfl) (fun w hSw => ?_) ?_
                                      rotate_left
                                      · (try dsimp only at hSw); go_simp; (try with_reducible rfl)
                                      try simp only [Act.put, List.setIfInBounds_toArray, List.set_cons_zero, List.set_cons_succ]
                                      refine' wpAnyZ_takeA (i := 34) (v := ?_) (opAt rfl) (by as_aux_lemma => kernel_rfl) (by as_aux_lemma => kernel_rfl) (by as_aux_lemma => kernel_rfl) (by as_aux_lemma => kernel_rfl) (fun _ _ _ h => h) (by assumption) (by rfl) (fun w hSw => ?_) ?_
                                      rotate_left
                                      · (try dsimp only at hSw); go_simp; (try with_reducible rfl)
                                      try simp only [Act.put, List.setIfInBounds_toArray, List.set_cons_zero, List.set_cons_succ]
                                      refine' wpAnyZ_takeA (i := 35) (v := ?_) (opAt rfl) (by as_aux_lemma => kernel_rfl) (by as_aux_lemma => kernel_rfl) (by as_aux_lemma => kernel_rfl) (by as_aux_lemma => kernel_rfl) (fun _ _ _ h => h) (by assumption) (by rfl) (fun w hSw => ?_) ?_
                                      rotate_left
                                      · (try dsimp only at hSw); go_simp; (try with_reducible rfl)
                                      try simp only [Act.put, List.setIfInBounds_toArray, List.set_cons_zero, List.set_cons_succ]
                                      refine' wpAnyZ_takeA (i := 36) (v := ?_) (opAt rfl) (by as_aux_lemma => kernel_rfl) (by as_aux_lemma => kernel_rfl) (by as_aux_lemma => kernel_rfl) (by as_aux_lemma => kernel_rfl) (fun _ _ _ h => h) (by assumption) (by rfl) (fun w hSw => ?_) ?_
                                      rotate_left
                                      · (try dsimp only at hSw); go_simp; (try with_reducible rfl)
                                      try simp only [Act.put, List.setIfInBounds_toArray, List.set_cons_zero, List.set_cons_succ]
                                      refine' wpAnyZ_takeA (i := 37) (v := ?_) (opAt rfl) (by as_aux_lemma => kernel_rfl) (by as_aux_lemma => kernel_rfl) (by as_aux_lemma => kernel_rfl) (by as_aux_lemma => kernel_rfl) (fun _ _ _ h => h) (by assumption) (by rfl) (fun w hSw => ?_) ?_
                                      rotate_left
                                      · (try dsimp only at hSw); go_simp; (try with_reducible rfl)
                                      try simp only [Act.put, List.setIfInBounds_toArray, List.set_cons_zero, List.set_cons_succ]
                                      refine wpAnyZ_done (by as_aux_lemma => kernel_rfl) ?_ _
                                      clear hHeld
                                      go_wp2_with fail
                                      go_roundg (i - (j + 1))
                                      case measure => omega
                                      case rel => exact ⟨j + 1, by omega, rfl, by go_num, hE4⟩
                                    exact AllReadyZ.nil
                                  exact AllReadyZ.nil
                                exact AllReadyZ.nil
                              exact AllReadyZ.nil
                          | false =>
                            as_aux_lemma =>
                              simp only [Bool.not_true, Bool.not_false, Bool.and_true, Bool.and_false, Bool.true_and, Bool.false_and] at HASA HASB CVA
                              go_wp2_with fail
                              have hE4 := hE3.drew
                              clear zS
                              refine wp_region_heldZ [] (fun w' => w'.cell? (aS.add j) = some (.int .i64 a) ∧ w'.cell? ⟨gn, 0, none⟩ = some (.slice A3 RF.length c3) ∧ w'.cell? ⟨gn, 1, none⟩ = some (.slice A4 KF.length c4)) (by as_aux_lemma => kernel_rfl) (by exact ⟨ZS.out _ hE4, (BE.out _ hE4).cell 0, (BE.out _ hE4).cell 1⟩) (fun hHeld => ?_)
                              generalize wc.drew = wd at *
                              refine' wpAnyZ_takeA (i := 0) (v := ?_) (opAt rfl) (by as_aux_lemma => kernel_rfl) (by as_aux_lemma => kernel_rfl) (by as_aux_lemma => kernel_rfl) (by as_aux_lemma => kernel_rfl) (fun _ _ _ h => h) (by assumption) (by rfl) (fun w hSw => ?_) ?_
                              rotate_left
                              · (try dsimp only at hSw); go_simp; (try with_reducible rfl)
                              try simp only [Act.put, List.setIfInBounds_toArray, List.set_cons_zero, List.set_cons_succ]
                              refine' wpAnyZ_takeA (i := 1) (v := ?_) (opAt rfl) (by as_aux_lemma => kernel_rfl) (by as_aux_lemma => kernel_rfl) (by as_aux_lemma => kernel_rfl) (by as_aux_lemma => kernel_rfl) (fun _ _ _ h => h) (by assumption) (by rfl) (fun w hSw => ?_) ?_
                              rotate_left
                              · (try dsimp only at hSw); go_simp; (try with_reducible rfl)
                              try simp only [Act.put, List.setIfInBounds_toArray, List.set_cons_zero, List.set_cons_succ]
                              refine' wpAnyZ_takeA (i := 2) (v := ?_) (opAt rfl) (by as_aux_lemma => kernel_rfl) (by as_aux_lemma => kernel_rfl) (by as_aux_lemma => kernel_rfl) (by as_aux_lemma => kernel_rfl) (fun _ _ _ h => h) (by assumption) (by rfl) (fun w hSw => ?_) ?_
                              rotate_left
                              · (try dsimp only at hSw); go_simp; (try with_reducible rfl)
                              try simp only [Act.put, List.setIfInBounds_toArray, List.set_cons_zero, List.set_cons_succ]
                              refine' wpAnyZ_takeA (i := 3) (v := ?_) (opAt rfl) (by as_aux_lemma => kernel_rfl) (by as_aux_lemma => kernel_rfl) (by as_aux_lemma => kernel_rfl) (by as_aux_lemma => kernel_rfl) (fun _ _ _ h => h) (by assumption) (by rfl) (fun w hSw => ?_) ?_
                              rotate_left
                              · (try dsimp only at hSw); go_simp; (try with_reducible rfl)
                              try simp only [Act.put, List.setIfInBounds_toArray, List.set_cons_zero, List.set_cons_succ]
                              refine' wpAnyZ_takeA (i := 4) (v := ?_) (opAt rfl) (by as_aux_lemma => kernel_rfl) (by as_aux_lemma => kernel_rfl) (by as_aux_lemma => kernel_rfl) (by as_aux_lemma => kernel_rfl) (fun _ _ _ h => h) (by assumption) (by rfl) (fun w hSw => ?_) ?_
                              rotate_left
                              · (try dsimp only at hSw); go_simp; (try with_reducible rfl)
                              try simp only [Act.put, List.setIfInBounds_toArray, List.set_cons_zero, List.set_cons_succ]
                              refine' wpAnyZ_takeA (i := 6) (v := ?_) (opAt rfl) (by as_aux_lemma => kernel_rfl) (by as_aux_lemma => kernel_rfl) (by as_aux_lemma => kernel_rfl) (by as_aux_lemma => kernel_rfl) (fun _ _ _ h => h) (by assumption) (by rfl) (fun w hSw => ?_) ?_
                              rotate_left
                              · (try dsimp only at hSw); go_simp; (try with_reducible rfl)
                              try simp only [Act.put, List.setIfInBounds_toArray, List.set_cons_zero, List.set_cons_succ]
                              refine wpAnyZ_ready (rs := [5]) (by as_aux_lemma => kernel_rfl) (by simp) ?_
                              refine AllReadyZ.cons (opAt rfl) (fun K hK => ?_) ?_
                              · skip
                                go_simp
                                refine (HASA.out _ hE4).mono ?_
                                rintro e w5 ⟨rfl, hb1⟩
                                replace hE4 := hE4.trans (hb1.mono hE4.size)
                                clear hb1
                                try go_wp2_with fail
                                refine hK.out _ _ (by exact ⟨ZS.out _ hE4, (BE.out _ hE4).cell 0, (BE.out _ hE4).cell 1⟩) (fun hHeld => ?_)
                                clear hK K
                                try simp only [Act.put, List.setIfInBounds_toArray, List.set_cons_zero, List.set_cons_succ]
                                refine' wpAnyZ_takeA (i := 7) (v := ?_) (opAt rfl) (by as_aux_lemma => kernel_rfl) (by as_aux_lemma => kernel_rfl) (by as_aux_lemma => kernel_rfl) (by as_aux_lemma => kernel_rfl) (fun _ _ _ h => h) (by assumption) (by rfl) (fun w hSw => ?_) ?_
                                rotate_left
                                · (try dsimp only at hSw); go_simp; (try with_reducible rfl)
                                try simp only [Act.put, List.setIfInBounds_toArray, List.set_cons_zero, List.set_cons_succ]
                                refine' wpAnyZ_takeA (i := 8) (v := ?_) (opAt rfl) (by as_aux_lemma => kernel_rfl) (by as_aux_lemma => kernel_rfl) (by as_aux_lemma => kernel_rfl) (by as_aux_lemma => kernel_rfl) (fun _ _ _ h => h) (by assumption) (by rfl) (fun w hSw => ?_) ?_
                                rotate_left
                                · (try dsimp only at hSw); go_simp; (try with_reducible rfl)
                                try simp only [Act.put, List.setIfInBounds_toArray, List.set_cons_zero, List.set_cons_succ]
                                refine' wpAnyZ_takeA (i := 9) (v := ?_) (opAt rfl) (by as_aux_lemma => kernel_rfl) (by as_aux_lemma => kernel_rfl) (by as_aux_lemma => kernel_rfl) (by as_aux_lemma => kernel_rfl) (fun _ _ _ h => h) (by assumption) (by rfl) (fun w hSw => ?_) ?_
                                rotate_left
                                · (try dsimp only at hSw); go_simp; (try with_reducible rfl)
                                try simp only [Act.put, List.setIfInBounds_toArray, List.set_cons_zero, List.set_cons_succ]
                                refine' wpAnyZ_takeA (i := 10) (v := ?_) (opAt rfl) (by as_aux_lemma => kernel_rfl) (by as_aux_lemma => kernel_rfl) (by as_aux_lemma => kernel_rfl) (by as_aux_lemma => kernel_rfl) (fun _ _ _ h => h) (by assumption) (by rfl) (fun w hSw => ?_) ?_
                                rotate_left
                                · (try dsimp only at hSw); go_simp; (try with_reducible rfl)
                                try simp only [Act.put, List.setIfInBounds_toArray, List.set_cons_zero, List.set_cons_succ]
                                refine' wpAnyZ_takeA (i := 11) (v := ?_) (opAt rfl) (by as_aux_lemma => kernel_rfl) (by as_aux_lemma => kernel_rfl) (by as_aux_lemma => kernel_rfl) (by as_aux_lemma => kernel_rfl) (fun _ _ _ h => h) (by assumption) (by rfl) (fun w hSw => ?_) ?_
                                rotate_left
                                · (try dsimp only at hSw); go_simp; (try with_reducible rfl)
                                try simp only [Act.put, List.setIfInBounds_toArray, List.set_cons_zero, List.set_cons_succ]
                                refine' wpAnyZ_takeA (i := 12) (v := ?_) (opAt rfl) (by as_aux_lemma => kernel_rfl) (by as_aux_lemma => kernel_rfl) (by as_aux_lemma => kernel_rfl) (by as_aux_lemma => kernel_rfl) (fun _ _ _ h => h) (by assumption) (by rfl) (fun w hSw => ?_) ?_
                                rotate_left
                                · (try dsimp only at hSw); go_simp; (try with_reducible rfl)
                                try simp only [Act.put, List.setIfInBounds_toArray, List.set_cons_zero, List.set_cons_succ]
                                refine' wpAnyZ_takeA (i := 13) (v := ?_) (opAt rfl) (by as_aux_lemma => kernel_rfl) (by as_aux_lemma => kernel_rfl) (by as_aux_lemma => kernel_rfl) (by as_aux_lemma => kernel_rfl) (fun _ _ _ h => h) (by assumption) (by rfl) (fun w hSw => ?_) ?_
                                rotate_left
                                · (try dsimp only at hSw); go_simp; (try with_reducible rfl)
                                try simp only [Act.put, List.setIfInBounds_toArray, List.set_cons_zero, List.set_cons_succ]
                                refine' wpAnyZ_takeA (i := 15) (v := ?_) (opAt rfl) (by as_aux_lemma => kernel_rfl) (by as_aux_lemma => kernel_rfl) (by as_aux_lemma => kernel_rfl) (by as_aux_lemma => kernel_rfl) (fun _ _ _ h => h) (by assumption) (by rfl) (fun w hSw => ?_) ?_
                                rotate_left
                                · (try dsimp only at hSw); go_simp; (try with_reducible rfl)
                                try simp only [Act.put, List.setIfInBounds_toArray, List.set_cons_zero, List.set_cons_succ]
                                refine' wpAnyZ_takeA (i := 16) (v := ?_) (opAt rfl) (by as_aux_lemma => kernel_rfl) (by as_aux_lemma => kernel_rfl) (by as_aux_lemma => kernel_rfl) (by as_aux_lemma => kernel_rfl) (fun _ _ _ h => h) (by assumption) (by rfl) (fun w hSw => ?_) ?_
                                rotate_left
                                · (try dsimp only at hSw); go_simp; (try with_reducible rfl)
                                try simp only [Act.put, List.setIfInBounds_toArray, List.set_cons_zero, List.set_cons_succ]
                                refine' wpAnyZ_takeA (i := 17) (v := ?_) (opAt rfl) (by as_aux_lemma => kernel_rfl) (by as_aux_lemma => kernel_rfl) (by as_aux_lemma => kernel_rfl) (by as_aux_lemma => kernel_rfl) (fun _ _ _ h => h) (by assumption) (by rfl) (fun w hSw => ?_) ?_
                                rotate_left
                                · (try dsimp only at hSw); go_simp; (try with_reducible rfl)
                                try simp only [Act.put, List.setIfInBounds_toArray, List.set_cons_zero, List.set_cons_succ]
                                refine' wpAnyZ_takeA (i := 18) (v := ?_) (opAt rfl) (by as_aux_lemma => kernel_rfl) (by as_aux_lemma => kernel_rfl) (by as_aux_lemma => kernel_rfl) (by as_aux_lemma => kernel_rfl) (fun _ _ _ h => h) (by assumption) (by rfl) (fun w hSw => ?_) ?_
                                rotate_left
                                · (try dsimp only at hSw); go_simp; (try with_reducible rfl)
                                try simp only [Act.put, List.setIfInBounds_toArray, List.set_cons_zero, List.set_cons_succ]
                                refine' wpAnyZ_takeA (i := 20) (v := ?_) (opAt rfl) (by as_aux_lemma => kernel_rfl) (by as_aux_lemma => kernel_rfl) (by as_aux_lemma => kernel_rfl) (by as_aux_lemma => kernel_rfl) (fun _ _ _ h => h) (by assumption) (by rfl) (fun w hSw => ?_) ?_
                                rotate_left
                                · (try dsimp only at hSw); go_simp; (try with_reducible rfl)
                                try simp only [Act.put, List.setIfInBounds_toArray, List.set_cons_zero, List.set_cons_succ]
                                refine wpAnyZ_ready (rs := [14]) (by as_aux_lemma => kernel_rfl) (by simp) ?_
                                refine AllReadyZ.cons (opAt rfl) (fun K hK => ?_) ?_
                                · skip
                                  go_simp
                                  refine (SLT.out _ hE4).mono ?_
                                  rintro e w6 ⟨⟨A5, m5, c5, rfl, hm5, o5⟩, hb1⟩
                                  have r5 := Reads.of_own o5
                                  have HM5 := hide (show m5 ≤ 1000000 by have := HEB.out; omega)
                                  clear o5 hm5
                                  replace hE4 := hE4.trans (hb1.mono hE4.size)
                                  clear hb1
                                  try go_wp2_with fail
                                  refine hK.out _ _ (by exact ⟨ZS.out _ hE4, (BE.out _ hE4).cell 0, (BE.out _ hE4).cell 1⟩) (fun hHeld => ?_)
                                  clear hK K
                                  try simp only [Act.put, List.setIfInBounds_toArray, List.set_cons_zero, List.set_cons_succ]
                                  refine wpAnyZ_ready (rs := [19]) (by as_aux_lemma => kernel_rfl) (by simp) ?_
                                  refine AllReadyZ.cons (opAt rfl) (fun K hK => ?_) ?_
                                  · skip
                                    go_simp
                                    refine (HASB.out _ _ _ _ r5 HM5.out).mono ?_
                                    rintro e w7 ⟨rfl, hb1⟩
                                    clear r5
                                    replace hE4 := hE4.trans (hb1.mono hE4.size)
                                    clear hb1
                                    try go_wp2_with fail
                                    refine hK.out _ _ (by exact ⟨ZS.out _ hE4, (BE.out _ hE4).cell 0, (BE.out _ hE4).cell 1⟩) (fun hHeld => ?_)
                                    clear hK K
                                    try simp only [Act.put, List.setIfInBounds_toArray, List.set_cons_zero, List.set_cons_succ]
                                    refine' wpAnyZ_takeA (i := 21) (v := ?_) (opAt rfl) (by as_aux_lemma => kernel_rfl) (by as_aux_lemma => kernel_rfl) (by as_aux_lemma => kernel_rfl) (by as_aux_lemma => kernel_rfl) (fun _ _ _ h => h) (by assumption) (by rfl) (fun w hSw => ?_) ?_
                                    rotate_left
                                    · (try dsimp only at hSw); go_simp; (try with_reducible rfl)
                                    try simp only [Act.put, List.setIfInBounds_toArray, List.set_cons_zero, List.set_cons_succ]
                                    refine' wpAnyZ_takeA (i := 22) (v := ?_) (opAt rfl) (by as_aux_lemma => kernel_rfl) (by as_aux_lemma => kernel_rfl) (by as_aux_lemma => kernel_rfl) (by as_aux_lemma => kernel_rfl) (fun _ _ _ h => h) (by assumption) (by rfl) (fun w hSw => ?_) ?_
                                    rotate_left
                                    · (try dsimp only at hSw); go_simp; (try with_reducible rfl)
                                    try simp only [Act.put, List.setIfInBounds_toArray, List.set_cons_zero, List.set_cons_succ]
                                    refine' wpAnyZ_takeA (i := 23) (v := ?_) (opAt rfl) (by as_aux_lemma => kernel_rfl) (by as_aux_lemma => kernel_rfl) (by as_aux_lemma => kernel_rfl) (by as_aux_lemma => kernel_rfl) (fun _ _ _ h => h) (by assumption) (by rfl) (fun w hSw => ?_) ?_
                                    rotate_left
                                    · (try dsimp only at hSw); go_simp; (try with_reducible rfl)
                                    try simp only [Act.put, List.setIfInBounds_toArray, List.set_cons_zero, List.set_cons_succ]
                                    refine' wpAnyZ_takeA (i := 24) (v := ?_) (opAt rfl) (by as_aux_lemma => kernel_rfl) (by as_aux_lemma => kernel_rfl) (by as_aux_lemma => kernel_rfl) (by as_aux_lemma => kernel_rfl) (fun _ _ _ h => h) (by assumption) (by rfl) (fun w hSw => ?_) ?_
                                    rotate_left
                                    · (try dsimp only at hSw); go_simp; (try with_reducible rfl)
                                    try simp only [Act.put, List.setIfInBounds_toArray, List.set_cons_zero, List.set_cons_succ]
                                    refine' wpAnyZ_takeA (i := 25) (v := ?_) (opAt rfl) (by as_aux_lemma => kernel_rfl) (by as_aux_lemma => kernel_rfl) (by as_aux_lemma => kernel_rfl) (by as_aux_lemma => kernel_rfl) (fun _ _ _ h => h) (by assumption) (by rfl) (fun w hSw => ?_) ?_
                                    rotate_left
                                    · (try dsimp only at hSw); go_simp; (try with_reducible rfl)
                                    try simp only [Act.put, List.setIfInBounds_toArray, List.set_cons_zero, List.set_cons_succ]
                                    refine' wpAnyZ_takeA (i := 26) (v := ?_) (opAt rfl) (by as_aux_lemma => kernel_rfl) (by as_aux_lemma => kernel_rfl) (by as_aux_lemma => kernel_rfl) (by as_aux_lemma => kernel_rfl) (fun _ _ _ h => h) (by assumption) (by rfl) (fun w hSw => ?_) ?_
                                    rotate_left
                                    · (try dsimp only at hSw); go_simp; (try with_reducible rfl)
                                    try simp only [Act.put, List.setIfInBounds_toArray, List.set_cons_zero, List.set_cons_succ]
                                    refine' wpAnyZ_takeA (i := 27) (v := ?_) (opAt rfl) (by as_aux_lemma => kernel_rfl) (by as_aux_lemma => kernel_rfl) (by as_aux_lemma => kernel_rfl) (by as_aux_lemma => kernel_rfl) (fun _ _ _ h => h) (by assumption) (by rfl) (fun w hSw => ?_) ?_
                                    rotate_left
                                    · (try dsimp only at hSw); go_simp; (try with_reducible rfl)
                                    try simp only [Act.put, List.setIfInBounds_toArray, List.set_cons_zero, List.set_cons_succ]
                                    refine' wpAnyZ_takeA (i := 28) (v := ?_) (opAt rfl) (by as_aux_lemma => kernel_rfl) (by as_aux_lemma => kernel_rfl) (by as_aux_lemma => kernel_rfl) (by as_aux_lemma => kernel_rfl) (fun _ _ _ h => h) (by assumption) (by rfl) (fun w hSw => ?_) ?_
                                    rotate_left
                                    · (try dsimp only at hSw); go_simp; (try with_reducible rfl)
                                    try simp only [Act.put, List.setIfInBounds_toArray, List.set_cons_zero, List.set_cons_succ]
                                    refine' wpAnyZ_takeA (i := 29) (v := ?_) (opAt rfl) (by as_aux_lemma => kernel_rfl) (by as_aux_lemma => kernel_rfl) (by as_aux_lemma => kernel_rfl) (by as_aux_lemma => kernel_rfl) (fun _ _ _ h => h) (by assumption) (by rfl) (fun w hSw => ?_) ?_
                                    rotate_left
                                    · (try dsimp only at hSw); go_simp; (try with_reducible rfl)
                                    try simp only [Act.put, List.setIfInBounds_toArray, List.set_cons_zero, List.set_cons_succ]
                                    refine' wpAnyZ_takeA (i := 30) (v := ?_) (opAt rfl) (by as_aux_lemma => kernel_rfl) (by as_aux_lemma => kernel_rfl) (by as_aux_lemma => kernel_rfl) (by as_aux_lemma => kernel_rfl) (fun _ _ _ h => h) (by assumption) (by rfl) (fun w hSw => ?_) ?_
                                    rotate_left
                                    · (try dsimp only at hSw); go_simp; (try with_reducible rfl)
                                    try simp only [Act.put, List.setIfInBounds_toArray, List.set_cons_zero, List.set_cons_succ]
                                    refine' wpAnyZ_takeA (i := 32) (v := ?_) (opAt rfl) (by as_aux_lemma => kernel_rfl) (by as_aux_lemma => kernel_rfl) (by as_aux_lemma => kernel_rfl) (by as_aux_lemma => kernel_rfl) (fun _ _ _ h => h) (by assumption) (by rfl) (fun w hSw => ?_) ?_
                                    rotate_left
                                    · (try dsimp only at hSw); go_simp; (try with_reducible rfl)
                                    try simp only [Act.put, List.setIfInBounds_toArray, List.set_cons_zero, List.set_cons_succ]
                                    refine wpAnyZ_ready (rs := [31]) (by as_aux_lemma => kernel_rfl) (by simp) ?_
                                    refine AllReadyZ.cons (opAt rfl) (fun K hK => ?_) ?_
                                    · skip
                                      go_simp
                                      refine (CVA.out _ hE4).mono ?_
                                      rintro e w8 ⟨rfl, hb1⟩
                                      replace hE4 := hE4.trans (hb1.mono hE4.size)
                                      clear hb1
                                      try go_wp2_with fail
                                      refine hK.out _ _ (by exact ⟨ZS.out _ hE4, (BE.out _ hE4).cell 0, (BE.out _ hE4).cell 1⟩) (fun hHeld => ?_)
                                      clear hK K
                                      try simp only [Act.put, List.setIfInBounds_toArray, List.set_cons_zero, List.set_cons_succ]
                                      refine' wpAnyZ_takeA (i := 33) (v := ?_) (opAt rfl) (by as_aux_lemma => kernel_rfl) (by as_aux_lemma => kernel_rfl) (by as_aux_lemma => kernel_rfl) (by as_aux_lemma => kernel_rfl) (fun _ _ _ h => h) (by assumption) (by rfl) (fun w hSw => ?_) ?_
                                      rotate_left
                                      · (try dsimp only at hSw); go_simp; (try with_reducible rfl)
                                      try simp only [Act.put, List.setIfInBounds_toArray, List.set_cons_zero, List.set_cons_succ]
                                      refine' wpAnyZ_takeA (i := 34) (v := ?_) (opAt rfl) (by as_aux_lemma => kernel_rfl) (by as_aux_lemma => kernel_rfl) (by as_aux_lemma => kernel_rfl) (by as_aux_lemma => kernel_rfl) (fun _ _ _ h => h) (by assumption) (by rfl) (fun w hSw => ?_) ?_
                                      rotate_left
                                      · (try dsimp only at hSw); go_simp; (try with_reducible rfl)
                                      try simp only [Act.put, List.setIfInBounds_toArray, List.set_cons_zero, List.set_cons_succ]
                                      refine' wpAnyZ_takeA (i := 35) (v := ?_) (opAt rfl) (by as_aux_lemma => kernel_rfl) (by as_aux_lemma => kernel_rfl) (by as_aux_lemma => kernel_rfl) (by as_aux_lemma => kernel_rfl) (fun _ _ _ h => h) (by assumption) (by rfl) (fun w hSw => ?_) ?_
                                      rotate_left
                                      · (try dsimp only at hSw); go_simp; (try with_reducible rfl)
                                      try simp only [Act.put, List.setIfInBounds_toArray, List.set_cons_zero, List.set_cons_succ]
                                      refine' wpAnyZ_takeA (i := 36) (v := ?_) (opAt rfl) (by as_aux_lemma => kernel_rfl) (by as_aux_lemma => kernel_rfl) (by as_aux_lemma => kernel_rfl) (by as_aux_lemma => kernel_rfl) (fun _ _ _ h => h) (by assumption) (by rfl) (fun w hSw => ?_) ?_
                                      rotate_left
                                      · (try dsimp only at hSw); go_simp; (try with_reducible rfl)
                                      try simp only [Act.put, List.setIfInBounds_toArray, List.set_cons_zero, List.set_cons_succ]
                                      refine' wpAnyZ_takeA (i := 37) (v := ?_) (opAt rfl) (by as_aux_lemma => kernel_rfl) (by as_aux_lemma => kernel_rfl) (by as_aux_lemma => kernel_rfl) (by as_aux_lemma => kernel_rfl) (fun _ _ _ h => h) (by assumption) (by rfl) (fun w hSw => ?_) ?_
                                      rotate_left
                                      · (try dsimp only at hSw); go_simp; (try with_reducible rfl)
                                      try simp only [Act.put, List.setIfInBounds_toArray, List.set_cons_zero, List.set_cons_succ]
                                      refine wpAnyZ_done (by as_aux_lemma => kernel_rfl) ?_ _
                                      clear hHeld
                                      go_wp2_with fail
                                      go_roundg (i - (j + 1))
                                      case measure => omega
                                      case rel => exact ⟨j + 1, by omega, rfl, by go_num, hE4⟩
                                    exact AllReadyZ.nil
                                  exact AllReadyZ.nil
                                exact AllReadyZ.nil
                              exact AllReadyZ.nil
                        | false =>
                          cases cb with
                          | true =>
                            as_aux_lemma =>
                              simp only [Bool.not_true, Bool.not_false, Bool.and_true, Bool.and_false, Bool.true_and, Bool.false_and] at HASA HASB CVA
                              go_wp2_with fail
                              have hE4 := hE3.drew
                              clear zS
                              refine wp_region_heldZ [] (fun w' => w'.cell? (aS.add j) = some (.int .i64 a) ∧ w'.cell? ⟨gn, 0, none⟩ = some (.slice A3 RF.length c3) ∧ w'.cell? ⟨gn, 1, none⟩ = some (.slice A4 KF.length c4)) (by as_aux_lemma => kernel_rfl) (by exact ⟨ZS.out _ hE4, (BE.out _ hE4).cell 0, (BE.out _ hE4).cell 1⟩) (fun hHeld => ?_)
                              generalize wc.drew = wd at *
                              refine' wpAnyZ_takeA (i := 0) (v := ?_) (opAt rfl) (by as_aux_lemma => kernel_rfl) (by as_aux_lemma => kernel_rfl) (by as_aux_lemma => kernel_rfl) (by as_aux_lemma => kernel_rfl) (fun _ _ _ h => h) (by assumption) (by rfl) (fun w hSw => ?_) ?_
                              rotate_left
                              · (try dsimp only at hSw); go_simp; (try with_reducible rfl)
                              try simp only [Act.put, List.setIfInBounds_toArray, List.set_cons_zero, List.set_cons_succ]
                              refine' wpAnyZ_takeA (i := 1) (v := ?_) (opAt rfl) (by as_aux_lemma => kernel_rfl) (by as_aux_lemma => kernel_rfl) (by as_aux_lemma => kernel_rfl) (by as_aux_lemma => kernel_rfl) (fun _ _ _ h => h) (by assumption) (by rfl) (fun w hSw => ?_) ?_
                              rotate_left
                              · (try dsimp only at hSw); go_simp; (try with_reducible rfl)
                              try simp only [Act.put, List.setIfInBounds_toArray, List.set_cons_zero, List.set_cons_succ]
                              refine' wpAnyZ_takeA (i := 2) (v := ?_) (opAt rfl) (by as_aux_lemma => kernel_rfl) (by as_aux_lemma => kernel_rfl) (by as_aux_lemma => kernel_rfl) (by as_aux_lemma => kernel_rfl) (fun _ _ _ h => h) (by assumption) (by rfl) (fun w hSw => ?_) ?_
                              rotate_left
                              · (try dsimp only at hSw); go_simp; (try with_reducible rfl)
                              try simp only [Act.put, List.setIfInBounds_toArray, List.set_cons_zero, List.set_cons_succ]
                              refine' wpAnyZ_takeA (i := 3) (v := ?_) (opAt rfl) (by as_aux_lemma => kernel_rfl) (by as_aux_lemma => kernel_rfl) (by as_aux_lemma => kernel_rfl) (by as_aux_lemma => kernel_rfl) (fun _ _ _ h => h) (by assumption) (by rfl) (fun w hSw => ?_) ?_
                              rotate_left
                              · (try dsimp only at hSw); go_simp; (try with_reducible rfl)
                              try simp only [Act.put, List.setIfInBounds_toArray, List.set_cons_zero, List.set_cons_succ]
                              refine' wpAnyZ_takeA (i := 4) (v := ?_) (opAt rfl) (by as_aux_lemma => kernel_rfl) (by as_aux_lemma => kernel_rfl) (by as_aux_lemma => kernel_rfl) (by as_aux_lemma => kernel_rfl) (fun _ _ _ h => h) (by assumption) (by rfl) (fun w hSw => ?_) ?_
                              rotate_left
                              · (try dsimp only at hSw); go_simp; (try with_reducible rfl)
                              try simp only [Act.put, List.setIfInBounds_toArray, List.set_cons_zero, List.set_cons_succ]
                              refine' wpAnyZ_takeA (i := 6) (v := ?_) (opAt rfl) (by as_aux_lemma => kernel_rfl) (by as_aux_lemma => kernel_rfl) (by as_aux_lemma => kernel_rfl) (by as_aux_lemma => kernel_rfl) (fun _ _ _ h => h) (by assumption) (by rfl) (fun w hSw => ?_) ?_
                              rotate_left
                              · (try dsimp only at hSw); go_simp; (try with_reducible rfl)
                              try simp only [Act.put, List.setIfInBounds_toArray, List.set_cons_zero, List.set_cons_succ]
                              refine wpAnyZ_ready (rs := [5]) (by as_aux_lemma => kernel_rfl) (by simp) ?_
                              refine AllReadyZ.cons (opAt rfl) (fun K hK => ?_) ?_
                              · skip
                                go_simp
                                refine (HASA.out _ hE4).mono ?_
                                rintro e w5 ⟨rfl, hb1⟩
                                replace hE4 := hE4.trans (hb1.mono hE4.size)
                                clear hb1
                                try go_wp2_with fail
                                refine hK.out _ _ (by exact ⟨ZS.out _ hE4, (BE.out _ hE4).cell 0, (BE.out _ hE4).cell 1⟩) (fun hHeld => ?_)
                                clear hK K
                                try simp only [Act.put, List.setIfInBounds_toArray, List.set_cons_zero, List.set_cons_succ]
                                refine' wpAnyZ_takeA (i := 7) (v := ?_) (opAt rfl) (by as_aux_lemma => kernel_rfl) (by as_aux_lemma => kernel_rfl) (by as_aux_lemma => kernel_rfl) (by as_aux_lemma => kernel_rfl) (fun _ _ _ h => h) (by assumption) (by rfl) (fun w hSw => ?_) ?_
                                rotate_left
                                · (try dsimp only at hSw); go_simp; (try with_reducible rfl)
                                try simp only [Act.put, List.setIfInBounds_toArray, List.set_cons_zero, List.set_cons_succ]
                                refine' wpAnyZ_skipA (i := 8) _ rfl (opAt rfl) (by as_aux_lemma => kernel_rfl) (by as_aux_lemma => kernel_rfl) (by as_aux_lemma => kernel_rfl) (by as_aux_lemma => kernel_rfl) (fun _ _ _ h => h) (by assumption) (by rfl) ?_
                                try simp only [Act.put, List.setIfInBounds_toArray, List.set_cons_zero, List.set_cons_succ]
                                refine' wpAnyZ_skipA (i := 9) _ rfl (opAt rfl) (by as_aux_lemma => kernel_rfl) (by as_aux_lemma => kernel_rfl) (by as_aux_lemma => kernel_rfl) (by as_aux_lemma => kernel_rfl) (fun _ _ _ h => h) (by assumption) (by rfl) ?_
                                try simp only [Act.put, List.setIfInBounds_toArray, List.set_cons_zero, List.set_cons_succ]
                                refine' wpAnyZ_takeA (i := 10) (v := ?_) (opAt rfl) (by as_aux_lemma => kernel_rfl) (by as_aux_lemma => kernel_rfl) (by as_aux_lemma => kernel_rfl) (by as_aux_lemma => kernel_rfl) (fun _ _ _ h => h) (by assumption) (by rfl) (fun w hSw => ?_) ?_
                                rotate_left
                                · (try dsimp only at hSw); go_simp; (try with_reducible rfl)
                                try simp only [Act.put, List.setIfInBounds_toArray, List.set_cons_zero, List.set_cons_succ]
                                refine' wpAnyZ_takeA (i := 11) (v := ?_) (opAt rfl) (by as_aux_lemma => kernel_rfl) (by as_aux_lemma => kernel_rfl) (by as_aux_lemma => kernel_rfl) (by as_aux_lemma => kernel_rfl) (fun _ _ _ h => h) (by assumption) (by rfl) (fun w hSw => ?_) ?_
                                rotate_left
                                · (try dsimp only at hSw); go_simp; (try with_reducible rfl)
                                try simp only [Act.put, List.setIfInBounds_toArray, List.set_cons_zero, List.set_cons_succ]
                                refine' wpAnyZ_takeA (i := 12) (v := ?_) (opAt rfl) (by as_aux_lemma => kernel_rfl) (by as_aux_lemma => kernel_rfl) (by as_aux_lemma => kernel_rfl) (by as_aux_lemma => kernel_rfl) (fun _ _ _ h => h) (by assumption) (by rfl) (fun w hSw => ?_) ?_
                                rotate_left
                                · (try dsimp only at hSw); go_simp; (try with_reducible rfl)
                                try simp only [Act.put, List.setIfInBounds_toArray, List.set_cons_zero, List.set_cons_succ]
                                refine' wpAnyZ_takeA (i := 13) (v := ?_) (opAt rfl) (by as_aux_lemma => kernel_rfl) (by as_aux_lemma => kernel_rfl) (by as_aux_lemma => kernel_rfl) (by as_aux_lemma => kernel_rfl) (fun _ _ _ h => h) (by assumption) (by rfl) (fun w hSw => ?_) ?_
                                rotate_left
                                · (try dsimp only at hSw); go_simp; (try with_reducible rfl)
                                try simp only [Act.put, List.setIfInBounds_toArray, List.set_cons_zero, List.set_cons_succ]
                                refine' wpAnyZ_takeA (i := 15) (v := ?_) (opAt rfl) (by as_aux_lemma => kernel_rfl) (by as_aux_lemma => kernel_rfl) (by as_aux_lemma => kernel_rfl) (by as_aux_lemma => kernel_rfl) (fun _ _ _ h => h) (by assumption) (by rfl) (fun w hSw => ?_) ?_
                                rotate_left
                                · (try dsimp only at hSw); go_simp; (try with_reducible rfl)
                                try simp only [Act.put, List.setIfInBounds_toArray, List.set_cons_zero, List.set_cons_succ]
                                refine' wpAnyZ_takeA (i := 16) (v := ?_) (opAt rfl) (by as_aux_lemma => kernel_rfl) (by as_aux_lemma => kernel_rfl) (by as_aux_lemma => kernel_rfl) (by as_aux_lemma => kernel_rfl) (fun _ _ _ h => h) (by assumption) (by rfl) (fun w hSw => ?_) ?_
                                rotate_left
                                · (try dsimp only at hSw); go_simp; (try with_reducible rfl)
                                try simp only [Act.put, List.setIfInBounds_toArray, List.set_cons_zero, List.set_cons_succ]
                                refine' wpAnyZ_takeA (i := 17) (v := ?_) (opAt rfl) (by as_aux_lemma => kernel_rfl) (by as_aux_lemma => kernel_rfl) (by as_aux_lemma => kernel_rfl) (by as_aux_lemma => kernel_rfl) (fun _ _ _ h => h) (by assumption) (by rfl) (fun w hSw => ?_) ?_
                                rotate_left
                                · (try dsimp only at hSw); go_simp; (try with_reducible rfl)
                                try simp only [Act.put, List.setIfInBounds_toArray, List.set_cons_zero, List.set_cons_succ]
                                refine' wpAnyZ_takeA (i := 18) (v := ?_) (opAt rfl) (by as_aux_lemma => kernel_rfl) (by as_aux_lemma => kernel_rfl) (by as_aux_lemma => kernel_rfl) (by as_aux_lemma => kernel_rfl) (fun _ _ _ h => h) (by assumption) (by rfl) (fun w hSw => ?_) ?_
                                rotate_left
                                · (try dsimp only at hSw); go_simp; (try with_reducible rfl)
                                try simp only [Act.put, List.setIfInBounds_toArray, List.set_cons_zero, List.set_cons_succ]
                                refine' wpAnyZ_takeA (i := 20) (v := ?_) (opAt rfl) (by as_aux_lemma => kernel_rfl) (by as_aux_lemma => kernel_rfl) (by as_aux_lemma => kernel_rfl) (by as_aux_lemma => kernel_rfl) (fun _ _ _ h => h) (by assumption) (by rfl) (fun w hSw => ?_) ?_
                                rotate_left
                                · (try dsimp only at hSw); go_simp; (try with_reducible rfl)
                                try simp only [Act.put, List.setIfInBounds_toArray, List.set_cons_zero, List.set_cons_succ]
                                refine wpAnyZ_ready (rs := [14]) (by as_aux_lemma => kernel_rfl) (by simp) ?_
                                refine AllReadyZ.cons (opAt rfl) (fun K hK => ?_) ?_
                                · skip
                                  go_simp
                                  refine (SLT.out _ hE4).mono ?_
                                  rintro e w6 ⟨⟨A5, m5, c5, rfl, hm5, o5⟩, hb1⟩
                                  have r5 := Reads.of_own o5
                                  have HM5 := hide (show m5 ≤ 1000000 by have := HEB.out; omega)
                                  clear o5 hm5
                                  replace hE4 := hE4.trans (hb1.mono hE4.size)
                                  clear hb1
                                  try go_wp2_with fail
                                  refine hK.out _ _ (by exact ⟨ZS.out _ hE4, (BE.out _ hE4).cell 0, (BE.out _ hE4).cell 1⟩) (fun hHeld => ?_)
                                  clear hK K
                                  try simp only [Act.put, List.setIfInBounds_toArray, List.set_cons_zero, List.set_cons_succ]
                                  refine wpAnyZ_ready (rs := [19]) (by as_aux_lemma => kernel_rfl) (by simp) ?_
                                  refine AllReadyZ.cons (opAt rfl) (fun K hK => ?_) ?_
                                  · skip
                                    go_simp
                                    refine (HASB.out _ _ _ _ r5 HM5.out).mono ?_
                                    rintro e w7 ⟨rfl, hb1⟩
                                    clear r5
                                    replace hE4 := hE4.trans (hb1.mono hE4.size)
                                    clear hb1
                                    try go_wp2_with fail
                                    refine hK.out _ _ (by exact ⟨ZS.out _ hE4, (BE.out _ hE4).cell 0, (BE.out _ hE4).cell 1⟩) (fun hHeld => ?_)
                                    clear hK K
                                    try simp only [Act.put, List.setIfInBounds_toArray, List.set_cons_zero, List.set_cons_succ]
                                    refine' wpAnyZ_takeA (i := 21) (v := ?_) (opAt rfl) (by as_aux_lemma => kernel_rfl) (by as_aux_lemma => kernel_rfl) (by as_aux_lemma => kernel_rfl) (by as_aux_lemma => kernel_rfl) (fun _ _ _ h => h) (by assumption) (by rfl) (fun w hSw => ?_) ?_
                                    rotate_left
                                    · (try dsimp only at hSw); go_simp; (try with_reducible rfl)
                                    try simp only [Act.put, List.setIfInBounds_toArray, List.set_cons_zero, List.set_cons_succ]
                                    refine' wpAnyZ_skipA (i := 22) _ rfl (opAt rfl) (by as_aux_lemma => kernel_rfl) (by as_aux_lemma => kernel_rfl) (by as_aux_lemma => kernel_rfl) (by as_aux_lemma => kernel_rfl) (fun _ _ _ h => h) (by assumption) (by rfl) ?_
                                    try simp only [Act.put, List.setIfInBounds_toArray, List.set_cons_zero, List.set_cons_succ]
                                    refine' wpAnyZ_skipA (i := 23) _ rfl (opAt rfl) (by as_aux_lemma => kernel_rfl) (by as_aux_lemma => kernel_rfl) (by as_aux_lemma => kernel_rfl) (by as_aux_lemma => kernel_rfl) (fun _ _ _ h => h) (by assumption) (by rfl) ?_
                                    try simp only [Act.put, List.setIfInBounds_toArray, List.set_cons_zero, List.set_cons_succ]
                                    refine' wpAnyZ_takeA (i := 24) (v := ?_) (opAt rfl) (by as_aux_lemma => kernel_rfl) (by as_aux_lemma => kernel_rfl) (by as_aux_lemma => kernel_rfl) (by as_aux_lemma => kernel_rfl) (fun _ _ _ h => h) (by assumption) (by rfl) (fun w hSw => ?_) ?_
                                    rotate_left
                                    · (try dsimp only at hSw); go_simp; (try with_reducible rfl)
                                    try simp only [Act.put, List.setIfInBounds_toArray, List.set_cons_zero, List.set_cons_succ]
                                    refine' wpAnyZ_takeA (i := 25) (v := ?_) (opAt rfl) (by as_aux_lemma => kernel_rfl) (by as_aux_lemma => kernel_rfl) (by as_aux_lemma => kernel_rfl) (by as_aux_lemma => kernel_rfl) (fun _ _ _ h => h) (by assumption) (by rfl) (fun w hSw => ?_) ?_
                                    rotate_left
                                    · (try dsimp only at hSw); go_simp; (try with_reducible rfl)
                                    try simp only [Act.put, List.setIfInBounds_toArray, List.set_cons_zero, List.set_cons_succ]
                                    refine' wpAnyZ_takeA (i := 26) (v := ?_) (opAt rfl) (by as_aux_lemma => kernel_rfl) (by as_aux_lemma => kernel_rfl) (by as_aux_lemma => kernel_rfl) (by as_aux_lemma => kernel_rfl) (fun _ _ _ h => h) (by assumption) (by rfl) (fun w hSw => ?_) ?_
                                    rotate_left
                                    · (try dsimp only at hSw); go_simp; (try with_reducible rfl)
                                    try simp only [Act.put, List.setIfInBounds_toArray, List.set_cons_zero, List.set_cons_succ]
                                    refine' wpAnyZ_takeA (i := 27) (v := ?_) (opAt rfl) (by as_aux_lemma => kernel_rfl) (by as_aux_lemma => kernel_rfl) (by as_aux_lemma => kernel_rfl) (by as_aux_lemma => kernel_rfl) (fun _ _ _ h => h) (by assumption) (by rfl) (fun w hSw => ?_) ?_
                                    rotate_left
                                    · (try dsimp only at hSw); go_simp; (try with_reducible rfl)
                                    try simp only [Act.put, List.setIfInBounds_toArray, List.set_cons_zero, List.set_cons_succ]
                                    refine' wpAnyZ_takeA (i := 28) (v := ?_) (opAt rfl) (by as_aux_lemma => kernel_rfl) (by as_aux_lemma => kernel_rfl) (by as_aux_lemma => kernel_rfl) (by as_aux_lemma => kernel_rfl) (fun _ _ _ h => h) (by assumption) (by rfl) (fun w hSw => ?_) ?_
                                    rotate_left
                                    · (try dsimp only at hSw); go_simp; (try with_reducible rfl)
                                    try simp only [Act.put, List.setIfInBounds_toArray, List.set_cons_zero, List.set_cons_succ]
                                    refine' wpAnyZ_takeA (i := 29) (v := ?_) (opAt rfl) (by as_aux_lemma => kernel_rfl) (by as_aux_lemma => kernel_rfl) (by as_aux_lemma => kernel_rfl) (by as_aux_lemma => kernel_rfl) (fun _ _ _ h => h) (by assumption) (by rfl) (fun w hSw => ?_) ?_
                                    rotate_left
                                    · (try dsimp only at hSw); go_simp; (try with_reducible rfl)
                                    try simp only [Act.put, List.setIfInBounds_toArray, List.set_cons_zero, List.set_cons_succ]
                                    refine' wpAnyZ_takeA (i := 30) (v := ?_) (opAt rfl) (by as_aux_lemma => kernel_rfl) (by as_aux_lemma => kernel_rfl) (by as_aux_lemma => kernel_rfl) (by as_aux_lemma => kernel_rfl) (fun _ _ _ h => h) (by assumption) (by rfl) (fun w hSw => ?_) ?_
                                    rotate_left
                                    · (try dsimp only at hSw); go_simp; (try with_reducible rfl)
                                    try simp only [Act.put, List.setIfInBounds_toArray, List.set_cons_zero, List.set_cons_succ]
                                    refine' wpAnyZ_takeA (i := 32) (v := ?_) (opAt rfl) (by as_aux_lemma => kernel_rfl) (by as_aux_lemma => kernel_rfl) (by as_aux_lemma => kernel_rfl) (by as_aux_lemma => kernel_rfl) (fun _ _ _ h => h) (by assumption) (by rfl) (fun w hSw => ?_) ?_
                                    rotate_left
                                    · (try dsimp only at hSw); go_simp; (try with_reducible rfl)
                                    try simp only [Act.put, List.setIfInBounds_toArray, List.set_cons_zero, List.set_cons_succ]
                                    refine wpAnyZ_ready (rs := [31]) (by as_aux_lemma => kernel_rfl) (by simp) ?_
                                    refine AllReadyZ.cons (opAt rfl) (fun K hK => ?_) ?_
                                    · skip
                                      go_simp
                                      refine (CVA.out _ hE4).mono ?_
                                      rintro e w8 ⟨rfl, hb1⟩
                                      replace hE4 := hE4.trans (hb1.mono hE4.size)
                                      clear hb1
                                      try go_wp2_with fail
                                      refine hK.out _ _ (by exact ⟨ZS.out _ hE4, (BE.out _ hE4).cell 0, (BE.out _ hE4).cell 1⟩) (fun hHeld => ?_)
                                      clear hK K
                                      try simp only [Act.put, List.setIfInBounds_toArray, List.set_cons_zero, List.set_cons_succ]
                                      refine' wpAnyZ_takeA (i := 33) (v := ?_) (opAt rfl) (by as_aux_lemma => kernel_rfl) (by as_aux_lemma => kernel_rfl) (by as_aux_lemma => kernel_rfl) (by as_aux_lemma => kernel_rfl) (fun _ _ _ h => h) (by assumption) (by rfl) (fun w hSw => ?_) ?_
                                      rotate_left
                                      · (try dsimp only at hSw); go_simp; (try with_reducible rfl)
                                      try simp only [Act.put, List.setIfInBounds_toArray, List.set_cons_zero, List.set_cons_succ]
                                      refine' wpAnyZ_skipA (i := 34) _ rfl (opAt rfl) (by as_aux_lemma => kernel_rfl) (by as_aux_lemma => kernel_rfl) (by as_aux_lemma => kernel_rfl) (by as_aux_lemma => kernel_rfl) (fun _ _ _ h => h) (by assumption) (by rfl) ?_
                                      try simp only [Act.put, List.setIfInBounds_toArray, List.set_cons_zero, List.set_cons_succ]
                                      refine' wpAnyZ_takeA (i := 35) (v := ?_) (opAt rfl) (by as_aux_lemma => kernel_rfl) (by as_aux_lemma => kernel_rfl) (by as_aux_lemma => kernel_rfl) (by as_aux_lemma => kernel_rfl) (fun _ _ _ h => h) (by assumption) (by rfl) (fun w hSw => ?_) ?_
                                      rotate_left
                                      · (try dsimp only at hSw); go_simp; (try with_reducible rfl)
                                      try simp only [Act.put, List.setIfInBounds_toArray, List.set_cons_zero, List.set_cons_succ]
                                      refine' wpAnyZ_takeA (i := 36) (v := ?_) (opAt rfl) (by as_aux_lemma => kernel_rfl) (by as_aux_lemma => kernel_rfl) (by as_aux_lemma => kernel_rfl) (by as_aux_lemma => kernel_rfl) (fun _ _ _ h => h) (by assumption) (by rfl) (fun w hSw => ?_) ?_
                                      rotate_left
                                      · (try dsimp only at hSw); go_simp; (try with_reducible rfl)
                                      try simp only [Act.put, List.setIfInBounds_toArray, List.set_cons_zero, List.set_cons_succ]
                                      refine' wpAnyZ_takeA (i := 37) (v := ?_) (opAt rfl) (by as_aux_lemma => kernel_rfl) (by as_aux_lemma => kernel_rfl) (by as_aux_lemma => kernel_rfl) (by as_aux_lemma => kernel_rfl) (fun _ _ _ h => h) (by assumption) (by rfl) (fun w hSw => ?_) ?_
                                      rotate_left
                                      · (try dsimp only at hSw); go_simp; (try with_reducible rfl)
                                      try simp only [Act.put, List.setIfInBounds_toArray, List.set_cons_zero, List.set_cons_succ]
                                      refine wpAnyZ_done (by as_aux_lemma => kernel_rfl) ?_ _
                                      clear hHeld
                                      go_wp2_with fail
                                      go_roundg (i - (j + 1))
                                      case measure => omega
                                      case rel => exact ⟨j + 1, by omega, rfl, by go_num, hE4⟩
                                    exact AllReadyZ.nil
                                  exact AllReadyZ.nil
                                exact AllReadyZ.nil
                              exact AllReadyZ.nil
                          | false =>
                            as_aux_lemma =>
                              simp only [Bool.not_true, Bool.not_false, Bool.and_true, Bool.and_false, Bool.true_and, Bool.false_and] at HASA HASB CVA
                              go_wp2_with fail
                              have hE4 := hE3.drew
                              clear zS
                              refine wp_region_heldZ [] (fun w' => w'.cell? (aS.add j) = some (.int .i64 a) ∧ w'.cell? ⟨gn, 0, none⟩ = some (.slice A3 RF.length c3) ∧ w'.cell? ⟨gn, 1, none⟩ = some (.slice A4 KF.length c4)) (by as_aux_lemma => kernel_rfl) (by exact ⟨ZS.out _ hE4, (BE.out _ hE4).cell 0, (BE.out _ hE4).cell 1⟩) (fun hHeld => ?_)
                              generalize wc.drew = wd at *
                              refine' wpAnyZ_takeA (i := 0) (v := ?_) (opAt rfl) (by as_aux_lemma => kernel_rfl) (by as_aux_lemma => kernel_rfl) (by as_aux_lemma => kernel_rfl) (by as_aux_lemma => kernel_rfl) (fun _ _ _ h => h) (by assumption) (by rfl) (fun w hSw => ?_) ?_
                              rotate_left
                              · (try dsimp only at hSw); go_simp; (try with_reducible rfl)
                              try simp only [Act.put, List.setIfInBounds_toArray, List.set_cons_zero, List.set_cons_succ]
                              refine' wpAnyZ_takeA (i := 1) (v := ?_) (opAt rfl) (by as_aux_lemma => kernel_rfl) (by as_aux_lemma => kernel_rfl) (by as_aux_lemma => kernel_rfl) (by as_aux_lemma => kernel_rfl) (fun _ _ _ h => h) (by assumption) (by rfl) (fun w hSw => ?_) ?_
                              rotate_left
                              · (try dsimp only at hSw); go_simp; (try with_reducible rfl)
                              try simp only [Act.put, List.setIfInBounds_toArray, List.set_cons_zero, List.set_cons_succ]
                              refine' wpAnyZ_takeA (i := 2) (v := ?_) (opAt rfl) (by as_aux_lemma => kernel_rfl) (by as_aux_lemma => kernel_rfl) (by as_aux_lemma => kernel_rfl) (by as_aux_lemma => kernel_rfl) (fun _ _ _ h => h) (by assumption) (by rfl) (fun w hSw => ?_) ?_
                              rotate_left
                              · (try dsimp only at hSw); go_simp; (try with_reducible rfl)
                              try simp only [Act.put, List.setIfInBounds_toArray, List.set_cons_zero, List.set_cons_succ]
                              refine' wpAnyZ_takeA (i := 3) (v := ?_) (opAt rfl) (by as_aux_lemma => kernel_rfl) (by as_aux_lemma => kernel_rfl) (by as_aux_lemma => kernel_rfl) (by as_aux_lemma => kernel_rfl) (fun _ _ _ h => h) (by assumption) (by rfl) (fun w hSw => ?_) ?_
                              rotate_left
                              · (try dsimp only at hSw); go_simp; (try with_reducible rfl)
                              try simp only [Act.put, List.setIfInBounds_toArray, List.set_cons_zero, List.set_cons_succ]
                              refine' wpAnyZ_takeA (i := 4) (v := ?_) (opAt rfl) (by as_aux_lemma => kernel_rfl) (by as_aux_lemma => kernel_rfl) (by as_aux_lemma => kernel_rfl) (by as_aux_lemma => kernel_rfl) (fun _ _ _ h => h) (by assumption) (by rfl) (fun w hSw => ?_) ?_
                              rotate_left
                              · (try dsimp only at hSw); go_simp; (try with_reducible rfl)
                              try simp only [Act.put, List.setIfInBounds_toArray, List.set_cons_zero, List.set_cons_succ]
                              refine' wpAnyZ_takeA (i := 6) (v := ?_) (opAt rfl) (by as_aux_lemma => kernel_rfl) (by as_aux_lemma => kernel_rfl) (by as_aux_lemma => kernel_rfl) (by as_aux_lemma => kernel_rfl) (fun _ _ _ h => h) (by assumption) (by rfl) (fun w hSw => ?_) ?_
                              rotate_left
                              · (try dsimp only at hSw); go_simp; (try with_reducible rfl)
                              try simp only [Act.put, List.setIfInBounds_toArray, List.set_cons_zero, List.set_cons_succ]
                              refine wpAnyZ_ready (rs := [5]) (by as_aux_lemma => kernel_rfl) (by simp) ?_
                              refine AllReadyZ.cons (opAt rfl) (fun K hK => ?_) ?_
                              · skip
                                go_simp
                                refine (HASA.out _ hE4).mono ?_
                                rintro e w5 ⟨rfl, hb1⟩
                                replace hE4 := hE4.trans (hb1.mono hE4.size)
                                clear hb1
                                try go_wp2_with fail
                                refine hK.out _ _ (by exact ⟨ZS.out _ hE4, (BE.out _ hE4).cell 0, (BE.out _ hE4).cell 1⟩) (fun hHeld => ?_)
                                clear hK K
                                try simp only [Act.put, List.setIfInBounds_toArray, List.set_cons_zero, List.set_cons_succ]
                                refine' wpAnyZ_takeA (i := 7) (v := ?_) (opAt rfl) (by as_aux_lemma => kernel_rfl) (by as_aux_lemma => kernel_rfl) (by as_aux_lemma => kernel_rfl) (by as_aux_lemma => kernel_rfl) (fun _ _ _ h => h) (by assumption) (by rfl) (fun w hSw => ?_) ?_
                                rotate_left
                                · (try dsimp only at hSw); go_simp; (try with_reducible rfl)
                                try simp only [Act.put, List.setIfInBounds_toArray, List.set_cons_zero, List.set_cons_succ]
                                refine' wpAnyZ_skipA (i := 8) _ rfl (opAt rfl) (by as_aux_lemma => kernel_rfl) (by as_aux_lemma => kernel_rfl) (by as_aux_lemma => kernel_rfl) (by as_aux_lemma => kernel_rfl) (fun _ _ _ h => h) (by assumption) (by rfl) ?_
                                try simp only [Act.put, List.setIfInBounds_toArray, List.set_cons_zero, List.set_cons_succ]
                                refine' wpAnyZ_skipA (i := 9) _ rfl (opAt rfl) (by as_aux_lemma => kernel_rfl) (by as_aux_lemma => kernel_rfl) (by as_aux_lemma => kernel_rfl) (by as_aux_lemma => kernel_rfl) (fun _ _ _ h => h) (by assumption) (by rfl) ?_
                                try simp only [Act.put, List.setIfInBounds_toArray, List.set_cons_zero, List.set_cons_succ]
                                refine' wpAnyZ_takeA (i := 10) (v := ?_) (opAt rfl) (by as_aux_lemma => kernel_rfl) (by as_aux_lemma => kernel_rfl) (by as_aux_lemma => kernel_rfl) (by as_aux_lemma => kernel_rfl) (fun _ _ _ h => h) (by assumption) (by rfl) (fun w hSw => ?_) ?_
                                rotate_left
                                · (try dsimp only at hSw); go_simp; (try with_reducible rfl)
                                try simp only [Act.put, List.setIfInBounds_toArray, List.set_cons_zero, List.set_cons_succ]
                                refine' wpAnyZ_takeA (i := 11) (v := ?_) (opAt rfl) (by as_aux_lemma => kernel_rfl) (by as_aux_lemma => kernel_rfl) (by as_aux_lemma => kernel_rfl) (by as_aux_lemma => kernel_rfl) (fun _ _ _ h => h) (by assumption) (by rfl) (fun w hSw => ?_) ?_
                                rotate_left
                                · (try dsimp only at hSw); go_simp; (try with_reducible rfl)
                                try simp only [Act.put, List.setIfInBounds_toArray, List.set_cons_zero, List.set_cons_succ]
                                refine' wpAnyZ_takeA (i := 12) (v := ?_) (opAt rfl) (by as_aux_lemma => kernel_rfl) (by as_aux_lemma => kernel_rfl) (by as_aux_lemma => kernel_rfl) (by as_aux_lemma => kernel_rfl) (fun _ _ _ h => h) (by assumption) (by rfl) (fun w hSw => ?_) ?_
                                rotate_left
                                · (try dsimp only at hSw); go_simp; (try with_reducible rfl)
                                try simp only [Act.put, List.setIfInBounds_toArray, List.set_cons_zero, List.set_cons_succ]
                                refine' wpAnyZ_takeA (i := 13) (v := ?_) (opAt rfl) (by as_aux_lemma => kernel_rfl) (by as_aux_lemma => kernel_rfl) (by as_aux_lemma => kernel_rfl) (by as_aux_lemma => kernel_rfl) (fun _ _ _ h => h) (by assumption) (by rfl) (fun w hSw => ?_) ?_
                                rotate_left
                                · (try dsimp only at hSw); go_simp; (try with_reducible rfl)
                                try simp only [Act.put, List.setIfInBounds_toArray, List.set_cons_zero, List.set_cons_succ]
                                refine' wpAnyZ_takeA (i := 15) (v := ?_) (opAt rfl) (by as_aux_lemma => kernel_rfl) (by as_aux_lemma => kernel_rfl) (by as_aux_lemma => kernel_rfl) (by as_aux_lemma => kernel_rfl) (fun _ _ _ h => h) (by assumption) (by rfl) (fun w hSw => ?_) ?_
                                rotate_left
                                · (try dsimp only at hSw); go_simp; (try with_reducible rfl)
                                try simp only [Act.put, List.setIfInBounds_toArray, List.set_cons_zero, List.set_cons_succ]
                                refine' wpAnyZ_takeA (i := 16) (v := ?_) (opAt rfl) (by as_aux_lemma => kernel_rfl) (by as_aux_lemma => kernel_rfl) (by as_aux_lemma => kernel_rfl) (by as_aux_lemma => kernel_rfl) (fun _ _ _ h => h) (by assumption) (by rfl) (fun w hSw => ?_) ?_
                                rotate_left
                                · (try dsimp only at hSw); go_simp; (try with_reducible rfl)
                                try simp only [Act.put, List.setIfInBounds_toArray, List.set_cons_zero, List.set_cons_succ]
                                refine' wpAnyZ_takeA (i := 17) (v := ?_) (opAt rfl) (by as_aux_lemma => kernel_rfl) (by as_aux_lemma => kernel_rfl) (by as_aux_lemma => kernel_rfl) (by as_aux_lemma => kernel_rfl) (fun _ _ _ h => h) (by assumption) (by rfl) (fun w hSw => ?_) ?_
                                rotate_left
                                · (try dsimp only at hSw); go_simp; (try with_reducible rfl)
                                try simp only [Act.put, List.setIfInBounds_toArray, List.set_cons_zero, List.set_cons_succ]
                                refine' wpAnyZ_takeA (i := 18) (v := ?_) (opAt rfl) (by as_aux_lemma => kernel_rfl) (by as_aux_lemma => kernel_rfl) (by as_aux_lemma => kernel_rfl) (by as_aux_lemma => kernel_rfl) (fun _ _ _ h => h) (by assumption) (by rfl) (fun w hSw => ?_) ?_
                                rotate_left
                                · (try dsimp only at hSw); go_simp; (try with_reducible rfl)
                                try simp only [Act.put, List.setIfInBounds_toArray, List.set_cons_zero, List.set_cons_succ]
                                refine' wpAnyZ_takeA (i := 20) (v := ?_) (opAt rfl) (by as_aux_lemma => kernel_rfl) (by as_aux_lemma => kernel_rfl) (by as_aux_lemma => kernel_rfl) (by as_aux_lemma => kernel_rfl) (fun _ _ _ h => h) (by assumption) (by rfl) (fun w hSw => ?_) ?_
                                rotate_left
                                · (try dsimp only at hSw); go_simp; (try with_reducible rfl)
                                try simp only [Act.put, List.setIfInBounds_toArray, List.set_cons_zero, List.set_cons_succ]
                                refine wpAnyZ_ready (rs := [14]) (by as_aux_lemma => kernel_rfl) (by simp) ?_
                                refine AllReadyZ.cons (opAt rfl) (fun K hK => ?_) ?_
                                · skip
                                  go_simp
                                  refine (SLT.out _ hE4).mono ?_
                                  rintro e w6 ⟨⟨A5, m5, c5, rfl, hm5, o5⟩, hb1⟩
                                  have r5 := Reads.of_own o5
                                  have HM5 := hide (show m5 ≤ 1000000 by have := HEB.out; omega)
                                  clear o5 hm5
                                  replace hE4 := hE4.trans (hb1.mono hE4.size)
                                  clear hb1
                                  try go_wp2_with fail
                                  refine hK.out _ _ (by exact ⟨ZS.out _ hE4, (BE.out _ hE4).cell 0, (BE.out _ hE4).cell 1⟩) (fun hHeld => ?_)
                                  clear hK K
                                  try simp only [Act.put, List.setIfInBounds_toArray, List.set_cons_zero, List.set_cons_succ]
                                  refine wpAnyZ_ready (rs := [19]) (by as_aux_lemma => kernel_rfl) (by simp) ?_
                                  refine AllReadyZ.cons (opAt rfl) (fun K hK => ?_) ?_
                                  · skip
                                    go_simp
                                    refine (HASB.out _ _ _ _ r5 HM5.out).mono ?_
                                    rintro e w7 ⟨rfl, hb1⟩
                                    clear r5
                                    replace hE4 := hE4.trans (hb1.mono hE4.size)
                                    clear hb1
                                    try go_wp2_with fail
                                    refine hK.out _ _ (by exact ⟨ZS.out _ hE4, (BE.out _ hE4).cell 0, (BE.out _ hE4).cell 1⟩) (fun hHeld => ?_)
                                    clear hK K
                                    try simp only [Act.put, List.setIfInBounds_toArray, List.set_cons_zero, List.set_cons_succ]
                                    refine' wpAnyZ_takeA (i := 21) (v := ?_) (opAt rfl) (by as_aux_lemma => kernel_rfl) (by as_aux_lemma => kernel_rfl) (by as_aux_lemma => kernel_rfl) (by as_aux_lemma => kernel_rfl) (fun _ _ _ h => h) (by assumption) (by rfl) (fun w hSw => ?_) ?_
                                    rotate_left
                                    · (try dsimp only at hSw); go_simp; (try with_reducible rfl)
                                    try simp only [Act.put, List.setIfInBounds_toArray, List.set_cons_zero, List.set_cons_succ]
                                    refine' wpAnyZ_skipA (i := 22) _ rfl (opAt rfl) (by as_aux_lemma => kernel_rfl) (by as_aux_lemma => kernel_rfl) (by as_aux_lemma => kernel_rfl) (by as_aux_lemma => kernel_rfl) (fun _ _ _ h => h) (by assumption) (by rfl) ?_
                                    try simp only [Act.put, List.setIfInBounds_toArray, List.set_cons_zero, List.set_cons_succ]
                                    refine' wpAnyZ_skipA (i := 23) _ rfl (opAt rfl) (by as_aux_lemma => kernel_rfl) (by as_aux_lemma => kernel_rfl) (by as_aux_lemma => kernel_rfl) (by as_aux_lemma => kernel_rfl) (fun _ _ _ h => h) (by assumption) (by rfl) ?_
                                    try simp only [Act.put, List.setIfInBounds_toArray, List.set_cons_zero, List.set_cons_succ]
                                    refine' wpAnyZ_takeA (i := 24) (v := ?_) (opAt rfl) (by as_aux_lemma => kernel_rfl) (by as_aux_lemma => kernel_rfl) (by as_aux_lemma => kernel_rfl) (by as_aux_lemma => kernel_rfl) (fun _ _ _ h => h) (by assumption) (by rfl) (fun w hSw => ?_) ?_
                                    rotate_left
                                    · (try dsimp only at hSw); go_simp; (try with_reducible rfl)
                                    try simp only [Act.put, List.setIfInBounds_toArray, List.set_cons_zero, List.set_cons_succ]
                                    refine' wpAnyZ_takeA (i := 25) (v := ?_) (opAt rfl) (by as_aux_lemma => kernel_rfl) (by as_aux_lemma => kernel_rfl) (by as_aux_lemma => kernel_rfl) (by as_aux_lemma => kernel_rfl) (fun _ _ _ h => h) (by assumption) (by rfl) (fun w hSw => ?_) ?_
                                    rotate_left
                                    · (try dsimp only at hSw); go_simp; (try with_reducible rfl)
                                    try simp only [Act.put, List.setIfInBounds_toArray, List.set_cons_zero, List.set_cons_succ]
                                    refine' wpAnyZ_takeA (i := 26) (v := ?_) (opAt rfl) (by as_aux_lemma => kernel_rfl) (by as_aux_lemma => kernel_rfl) (by as_aux_lemma => kernel_rfl) (by as_aux_lemma => kernel_rfl) (fun _ _ _ h => h) (by assumption) (by rfl) (fun w hSw => ?_) ?_
                                    rotate_left
                                    · (try dsimp only at hSw); go_simp; (try with_reducible rfl)
                                    try simp only [Act.put, List.setIfInBounds_toArray, List.set_cons_zero, List.set_cons_succ]
                                    refine' wpAnyZ_takeA (i := 27) (v := ?_) (opAt rfl) (by as_aux_lemma => kernel_rfl) (by as_aux_lemma => kernel_rfl) (by as_aux_lemma => kernel_rfl) (by as_aux_lemma => kernel_rfl) (fun _ _ _ h => h) (by assumption) (by rfl) (fun w hSw => ?_) ?_
                                    rotate_left
                                    · (try dsimp only at hSw); go_simp; (try with_reducible rfl)
                                    try simp only [Act.put, List.setIfInBounds_toArray, List.set_cons_zero, List.set_cons_succ]
                                    refine' wpAnyZ_takeA (i := 28) (v := ?_) (opAt rfl) (by as_aux_lemma => kernel_rfl) (by as_aux_lemma => kernel_rfl) (by as_aux_lemma => kernel_rfl) (by as_aux_lemma => kernel_rfl) (fun _ _ _ h => h) (by assumption) (by rfl) (fun w hSw => ?_) ?_
                                    rotate_left
                                    · (try dsimp only at hSw); go_simp; (try with_reducible rfl)
                                    try simp only [Act.put, List.setIfInBounds_toArray, List.set_cons_zero, List.set_cons_succ]
                                    refine' wpAnyZ_takeA (i := 29) (v := ?_) (opAt rfl) (by as_aux_lemma => kernel_rfl) (by as_aux_lemma => kernel_rfl) (by as_aux_lemma => kernel_rfl) (by as_aux_lemma => kernel_rfl) (fun _ _ _ h => h) (by assumption) (by rfl) (fun w hSw => ?_) ?_
                                    rotate_left
                                    · (try dsimp only at hSw); go_simp; (try with_reducible rfl)
                                    try simp only [Act.put, List.setIfInBounds_toArray, List.set_cons_zero, List.set_cons_succ]
                                    refine' wpAnyZ_takeA (i := 30) (v := ?_) (opAt rfl) (by as_aux_lemma => kernel_rfl) (by as_aux_lemma => kernel_rfl) (by as_aux_lemma => kernel_rfl) (by as_aux_lemma => kernel_rfl) (fun _ _ _ h => h) (by assumption) (by rfl) (fun w hSw => ?_) ?_
                                    rotate_left
                                    · (try dsimp only at hSw); go_simp; (try with_reducible rfl)
                                    try simp only [Act.put, List.setIfInBounds_toArray, List.set_cons_zero, List.set_cons_succ]
                                    refine' wpAnyZ_takeA (i := 32) (v := ?_) (opAt rfl) (by as_aux_lemma => kernel_rfl) (by as_aux_lemma => kernel_rfl) (by as_aux_lemma => kernel_rfl) (by as_aux_lemma => kernel_rfl) (fun _ _ _ h => h) (by assumption) (by rfl) (fun w hSw => ?_) ?_
                                    rotate_left
                                    · (try dsimp only at hSw); go_simp; (try with_reducible rfl)
                                    try simp only [Act.put, List.setIfInBounds_toArray, List.set_cons_zero, List.set_cons_succ]
                                    refine wpAnyZ_ready (rs := [31]) (by as_aux_lemma => kernel_rfl) (by simp) ?_
                                    refine AllReadyZ.cons (opAt rfl) (fun K hK => ?_) ?_
                                    · skip
                                      go_simp
                                      refine (CVA.out _ hE4).mono ?_
                                      rintro e w8 ⟨rfl, hb1⟩
                                      replace hE4 := hE4.trans (hb1.mono hE4.size)
                                      clear hb1
                                      try go_wp2_with fail
                                      refine hK.out _ _ (by exact ⟨ZS.out _ hE4, (BE.out _ hE4).cell 0, (BE.out _ hE4).cell 1⟩) (fun hHeld => ?_)
                                      clear hK K
                                      try simp only [Act.put, List.setIfInBounds_toArray, List.set_cons_zero, List.set_cons_succ]
                                      refine' wpAnyZ_takeA (i := 33) (v := ?_) (opAt rfl) (by as_aux_lemma => kernel_rfl) (by as_aux_lemma => kernel_rfl) (by as_aux_lemma => kernel_rfl) (by as_aux_lemma => kernel_rfl) (fun _ _ _ h => h) (by assumption) (by rfl) (fun w hSw => ?_) ?_
                                      rotate_left
                                      · (try dsimp only at hSw); go_simp; (try with_reducible rfl)
                                      try simp only [Act.put, List.setIfInBounds_toArray, List.set_cons_zero, List.set_cons_succ]
                                      refine' wpAnyZ_skipA (i := 34) _ rfl (opAt rfl) (by as_aux_lemma => kernel_rfl) (by as_aux_lemma => kernel_rfl) (by as_aux_lemma => kernel_rfl) (by as_aux_lemma => kernel_rfl) (fun _ _ _ h => h) (by assumption) (by rfl) ?_
                                      try simp only [Act.put, List.setIfInBounds_toArray, List.set_cons_zero, List.set_cons_succ]
                                      refine' wpAnyZ_takeA (i := 35) (v := ?_) (opAt rfl) (by as_aux_lemma => kernel_rfl) (by as_aux_lemma => kernel_rfl) (by as_aux_lemma => kernel_rfl) (by as_aux_lemma => kernel_rfl) (fun _ _ _ h => h) (by assumption) (by rfl) (fun w hSw => ?_) ?_
                                      rotate_left
                                      · (try dsimp only at hSw); go_simp; (try with_reducible rfl)
                                      try simp only [Act.put, List.setIfInBounds_toArray, List.set_cons_zero, List.set_cons_succ]
                                      refine' wpAnyZ_takeA (i := 36) (v := ?_) (opAt rfl) (by as_aux_lemma => kernel_rfl) (by as_aux_lemma => kernel_rfl) (by as_aux_lemma => kernel_rfl) (by as_aux_lemma => kernel_rfl) (fun _ _ _ h => h) (by assumption) (by rfl) (fun w hSw => ?_) ?_
                                      rotate_left
                                      · (try dsimp only at hSw); go_simp; (try with_reducible rfl)
                                      try simp only [Act.put, List.setIfInBounds_toArray, List.set_cons_zero, List.set_cons_succ]
                                      refine' wpAnyZ_takeA (i := 37) (v := ?_) (opAt rfl) (by as_aux_lemma => kernel_rfl) (by as_aux_lemma => kernel_rfl) (by as_aux_lemma => kernel_rfl) (by as_aux_lemma => kernel_rfl) (fun _ _ _ h => h) (by assumption) (by rfl) (fun w hSw => ?_) ?_
                                      rotate_left
                                      · (try dsimp only at hSw); go_simp; (try with_reducible rfl)
                                      try simp only [Act.put, List.setIfInBounds_toArray, List.set_cons_zero, List.set_cons_succ]
                                      refine wpAnyZ_done (by as_aux_lemma => kernel_rfl) ?_ _
                                      clear hHeld
                                      go_wp2_with fail
                                      go_roundg (i - (j + 1))
                                      case measure => omega
                                      case rel => exact ⟨j + 1, by omega, rfl, by go_num, hE4⟩
                                    exact AllReadyZ.nil
                                  exact AllReadyZ.nil
                                exact AllReadyZ.nil
                              exact AllReadyZ.nil
                  · skip
                    have hji : j = i := by have := HJ.out; omega
                    subst hji
                    have hlti : ¬ (j : Int) < (j : Int) := by omega
                    have hwS : IntKind.i64.wrap (s - 1) = s - 1 := IntWalk.i64_in _ (by have := HS.out.1; omega)
                    clear hlt
                    have mc := fun i => (XE.out _ hE).cell i
                    go_wp2_with fail
                    clear mc
                    have hE4 := hE.drew
                    refine wp_region_heldZ [] (fun w' => w'.cell? ⟨w.heap.size, 0, none⟩ = some (.int .i64 s) ∧ w'.cell? ⟨gn, 0, none⟩ = some (.slice A3 RF.length c3) ∧ w'.cell? ⟨gn, 1, none⟩ = some (.slice A4 KF.length c4)) (by as_aux_lemma => kernel_rfl) (by exact ⟨(XE.out _ hE4).cell 0, (BE.out _ hE4).cell 0, (BE.out _ hE4).cell 1⟩) (fun hHeld => ?_)
                    generalize wr.drew = wd at *
                    refine' wpAnyZ_takeA (i := 0) (v := ?_) (opAt rfl) (by as_aux_lemma => kernel_rfl) (by as_aux_lemma => kernel_rfl) (by as_aux_lemma => kernel_rfl) (by as_aux_lemma => kernel_rfl) (fun _ _ _ h => h) (by assumption) (by rfl) (fun w hSw => ?_) ?_
                    rotate_left
                    · (try dsimp only at hSw); go_simp; (try with_reducible rfl)
                    try simp only [Act.put, List.setIfInBounds_toArray, List.set_cons_zero, List.set_cons_succ]
                    refine' wpAnyZ_takeA (i := 1) (v := ?_) (opAt rfl) (by as_aux_lemma => kernel_rfl) (by as_aux_lemma => kernel_rfl) (by as_aux_lemma => kernel_rfl) (by as_aux_lemma => kernel_rfl) (fun _ _ _ h => h) (by assumption) (by rfl) (fun w hSw => ?_) ?_
                    rotate_left
                    · (try dsimp only at hSw); go_simp; (try with_reducible rfl)
                    try simp only [Act.put, List.setIfInBounds_toArray, List.set_cons_zero, List.set_cons_succ]
                    refine' wpAnyZ_takeA (i := 2) (v := ?_) (opAt rfl) (by as_aux_lemma => kernel_rfl) (by as_aux_lemma => kernel_rfl) (by as_aux_lemma => kernel_rfl) (by as_aux_lemma => kernel_rfl) (fun _ _ _ h => h) (by assumption) (by rfl) (fun w hSw => ?_) ?_
                    rotate_left
                    · (try dsimp only at hSw); go_simp; (try with_reducible rfl)
                    try simp only [Act.put, List.setIfInBounds_toArray, List.set_cons_zero, List.set_cons_succ]
                    refine' wpAnyZ_takeA (i := 6) (v := ?_) (opAt rfl) (by as_aux_lemma => kernel_rfl) (by as_aux_lemma => kernel_rfl) (by as_aux_lemma => kernel_rfl) (by as_aux_lemma => kernel_rfl) (fun _ _ _ h => h) (by assumption) (by rfl) (fun w hSw => ?_) ?_
                    rotate_left
                    · (try dsimp only at hSw); go_simp; (try with_reducible rfl)
                    try simp only [Act.put, List.setIfInBounds_toArray, List.set_cons_zero, List.set_cons_succ]
                    refine' wpAnyZ_takeA (i := 7) (v := ?_) (opAt rfl) (by as_aux_lemma => kernel_rfl) (by as_aux_lemma => kernel_rfl) (by as_aux_lemma => kernel_rfl) (by as_aux_lemma => kernel_rfl) (fun _ _ _ h => h) (by assumption) (by rfl) (fun w hSw => ?_) ?_
                    rotate_left
                    · (try dsimp only at hSw); go_simp; (try with_reducible rfl)
                    try simp only [Act.put, List.setIfInBounds_toArray, List.set_cons_zero, List.set_cons_succ]
                    refine' wpAnyZ_takeA (i := 8) (v := ?_) (opAt rfl) (by as_aux_lemma => kernel_rfl) (by as_aux_lemma => kernel_rfl) (by as_aux_lemma => kernel_rfl) (by as_aux_lemma => kernel_rfl) (fun _ _ _ h => h) (by assumption) (by rfl) (fun w hSw => ?_) ?_
                    rotate_left
                    · (try dsimp only at hSw); go_simp; (try with_reducible rfl)
                    try simp only [Act.put, List.setIfInBounds_toArray, List.set_cons_zero, List.set_cons_succ]
                    refine wpAnyZ_ready (rs := [3]) (by as_aux_lemma => kernel_rfl) (by simp) ?_
                    refine AllReadyZ.cons (opAt rfl) (fun K hK => ?_) ?_
                    · skip
                      go_simp
                      refine (SLT.out _ hE4).mono ?_
                      rintro e w6 ⟨⟨A5, m5, c5, rfl, hm5, o5⟩, hb1⟩
                      have hwA : IntKind.i64.wrap ((FE.length : Int) + (m5 : Int)) = s - 1 := by rw [IntWalk.i64_in _ (by have := LAW4.out; have := HS.out.1; omega)]; have := LAW4.out; omega
                      clear o5 hm5
                      replace hE4 := hE4.trans (hb1.mono hE4.size)
                      clear hb1
                      try go_wp2_with fail
                      refine hK.out _ _ (by exact ⟨(XE.out _ hE4).cell 0, (BE.out _ hE4).cell 0, (BE.out _ hE4).cell 1⟩) (fun hHeld => ?_)
                      clear hK K
                      try simp only [Act.put, List.setIfInBounds_toArray, List.set_cons_zero, List.set_cons_succ]
                      refine' wpAnyZ_takeA (i := 4) (v := ?_) (opAt rfl) (by as_aux_lemma => kernel_rfl) (by as_aux_lemma => kernel_rfl) (by as_aux_lemma => kernel_rfl) (by as_aux_lemma => kernel_rfl) (fun _ _ _ h => h) (by assumption) (by rfl) (fun w hSw => ?_) ?_
                      rotate_left
                      · (try dsimp only at hSw); go_simp; (try with_reducible rfl)
                      try simp only [Act.put, List.setIfInBounds_toArray, List.set_cons_zero, List.set_cons_succ]
                      refine' wpAnyZ_takeA (i := 5) (v := ?_) (opAt rfl) (by as_aux_lemma => kernel_rfl) (by as_aux_lemma => kernel_rfl) (by as_aux_lemma => kernel_rfl) (by as_aux_lemma => kernel_rfl) (fun _ _ _ h => h) (by assumption) (by rfl) (fun w hSw => ?_) ?_
                      rotate_left
                      · (try dsimp only at hSw); go_simp; (try with_reducible rfl)
                      try simp only [Act.put, List.setIfInBounds_toArray, List.set_cons_zero, List.set_cons_succ]
                      refine' wpAnyZ_takeA (i := 9) (v := ?_) (opAt rfl) (by as_aux_lemma => kernel_rfl) (by as_aux_lemma => kernel_rfl) (by as_aux_lemma => kernel_rfl) (by as_aux_lemma => kernel_rfl) (fun _ _ _ h => h) (by assumption) (by rfl) (fun w hSw => ?_) ?_
                      rotate_left
                      · (try dsimp only at hSw); go_simp; (try with_reducible rfl)
                      try simp only [Act.put, List.setIfInBounds_toArray, List.set_cons_zero, List.set_cons_succ]
                      refine' wpAnyZ_takeA (i := 10) (v := ?_) (opAt rfl) (by as_aux_lemma => kernel_rfl) (by as_aux_lemma => kernel_rfl) (by as_aux_lemma => kernel_rfl) (by as_aux_lemma => kernel_rfl) (fun _ _ _ h => h) (by assumption) (by rfl) (fun w hSw => ?_) ?_
                      rotate_left
                      · (try dsimp only at hSw); go_simp; (try with_reducible rfl)
                      try simp only [Act.put, List.setIfInBounds_toArray, List.set_cons_zero, List.set_cons_succ]
                      refine wpAnyZ_ready (rs := [11]) (by as_aux_lemma => kernel_rfl) (by simp) ?_
                      refine AllReadyZ.cons (opAt rfl) (fun K hK => ?_) ?_
                      · skip
                        go_simp
                        refine (AW.out _ (BBE.out.trans (hE4.mono BBE.out.size))).mono ?_
                        rintro e w7 ⟨rfl, hb1⟩
                        replace hE4 := hE4.trans (hb1.mono hE4.size)
                        clear hb1
                        try go_wp2_with fail
                        refine hK.out _ _ (by exact ⟨(XE.out _ hE4).cell 0, (BE.out _ hE4).cell 0, (BE.out _ hE4).cell 1⟩) (fun hHeld => ?_)
                        clear hK K
                        try simp only [Act.put, List.setIfInBounds_toArray, List.set_cons_zero, List.set_cons_succ]
                        refine' wpAnyZ_takeA (i := 12) (v := ?_) (opAt rfl) (by as_aux_lemma => kernel_rfl) (by as_aux_lemma => kernel_rfl) (by as_aux_lemma => kernel_rfl) (by as_aux_lemma => kernel_rfl) (fun _ _ _ h => h) (by assumption) (by rfl) (fun w hSw => ?_) ?_
                        rotate_left
                        · (try dsimp only at hSw); go_simp; (try with_reducible rfl)
                        try simp only [Act.put, List.setIfInBounds_toArray, List.set_cons_zero, List.set_cons_succ]
                        refine' wpAnyZ_takeA (i := 13) (v := ?_) (opAt rfl) (by as_aux_lemma => kernel_rfl) (by as_aux_lemma => kernel_rfl) (by as_aux_lemma => kernel_rfl) (by as_aux_lemma => kernel_rfl) (fun _ _ _ h => h) (by assumption) (by rfl) (fun w hSw => ?_) ?_
                        rotate_left
                        · (try dsimp only at hSw); go_simp; (try with_reducible rfl)
                        try simp only [Act.put, List.setIfInBounds_toArray, List.set_cons_zero, List.set_cons_succ]
                        refine wpAnyZ_done (by as_aux_lemma => kernel_rfl) ?_ _
                        clear hHeld
                        go_wp2_with fail
                        go_ret
                        exact ⟨rfl, BBE.out.trans (hE4.mono BBE.out.size)⟩
                      exact AllReadyZ.nil
                    exact AllReadyZ.nil
end Go.Proofs.YtokcbipmocpllaaDoor

