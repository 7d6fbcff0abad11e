/-
  The Go function EnterLeaves.
-/
import Derived.Test.YthmkhcmgpkngmaaDoorLvs
import Derived.Test.YthmkhcmgpkngmaaDoorLvq
import Derived.Test.YthmkhcmgpkngmaaDoorWords
namespace Go.Proofs.YthmkhcmgpkngmaaDoor
open Go.RowKit Go.Shelf
attribute [local go_sem] Oper.semAt_some

theorem lv_eql (s t f l p th k m : Int) (w : World) : (binOp .eql 46 (.agg (lvA s t f l p th k m)) (.agg (lvA s t f l p th k m))).run Tryd.prog w = .ok (.bool true) w := by
  have hs : Tryd.prog.stoodInHeld 46 = false := by kernel_rfl
  rw [run_eql_struct, show (10000 : Nat) = 9999 + 1 from rfl, run_equalIn_agg _ _ _ _ _ (by kernel_rfl) hs]
  simp [lvA, Program.fieldsOf, Tryd.underlying46, Tryd.underlying27, Tryd.underlying23, Tryd.underlying3, Op.eqFields, run_equalIn_int, go_sem]
theorem blk_keep {X Y : World} {g : Nat} {T : TypeId} {cs : Array Value} {row : Option Nat} (h : Blk X g T cs) (hg : X.grownBy Y row) (hr : ∀ r, row = some r → ∃ o : Obj, X.heap[r]? = some o ∧ o.isCells = false) : Blk Y g T cs :=
  h.grown hg (fun e => by
    obtain ⟨o, ho, hc⟩ := hr g e.symm
    rw [show X.heap[g]? = _ from h] at ho
    cases ho; cases hc)
theorem row_keep {X Y : World} {base s n : Nat} {e : TypeId} {v : Value} {xs : List Value} {row : Option Nat} (h : X.ownsRow base e s v n xs) (hg : X.grownBy Y row) (hr : ∀ r, row = some r → ∃ o : Obj, X.heap[r]? = some o ∧ o.isCells = false) : Y.ownsRow base e s v n xs := by
  refine h.kept hg ?_
  rcases h.2 with ⟨rfl, _⟩ | ⟨g, cap, cur, rfl, _, hgb, _⟩
  · exact .inl rfl
  · refine .inr fun e' => ?_
    obtain ⟨o, ho, hc⟩ := hr g (by simpa [Value.ownBlock] using e'.symm)
    rw [hgb] at ho; cases ho; cases hc
theorem blk_set1 {w : World} {g : Nat} {T : TypeId} {a : Value} (h : Blk w g T #[a]) (x : Value) : Blk (w.setCell ⟨g, 0, none⟩ x) g T #[x] := by
  have b9 := h.set_ 0 x
  simpa only [List.setIfInBounds_toArray, List.set_cons_zero, List.set_cons_succ] using b9
/-- A piece that must end normally. -/
def onlyN (Q : Exit → Act → World → Prop) : Exit → Act → World → Prop
  | .normal, a, w => Q .normal a w
  | _, _, _ => False
theorem wp_onlyN {P : Program} {c : Code} {Q : Exit → Act → World → Prop} {a : Act} {w : World} (h : c.wp P (onlyN Q) a w) : c.wp P Q a w :=
  Code.wp_mono (fun e a w h => by cases e <;> first | exact h | exact h.elim) h
theorem onlyN_normal {Q : Exit → Act → World → Prop} {a : Act} {w : World} (h : Q .normal a w) : onlyN Q .normal a w := h
structure Stop9 (p : Prop) : Prop where
  out : p
theorem row_cells {w : World} {base s n : Nat} {e : TypeId} {v : Value} {xs : List Value} (h : w.ownsRow base e s v n xs) : ∀ (j : Nat) (o : Obj), v.ownBlock = some j → w.heap[j]? = some o → o.isCells = true := fun j o ej hj => by
  rcases h.2 with ⟨rfl, _⟩ | ⟨g, cap, cur, rfl, _, hgb, _⟩
  · simp [Value.ownBlock] at ej
  · obtain rfl : g = j := by simpa [Value.ownBlock] using ej
    rw [hgb] at hj; cases hj; rfl
/-- What holds between two rounds. -/
def LI (gc gb gs hb : Nat) (cf : Array Value) (wv : Value) (mo : Nat) (ys : List Int) (w : World) (pre : List Int) (W : World) : Prop :=
  (∃ v, Blk W gs 62 #[v] ∧ W.ownsRow hb 39 4 v pre.length (recA pre)) ∧ Blk W gc 23 cf ∧ Blk W gb 4 #[.bool false] ∧ W.ownsRow w.heap.size 39 4 wv mo (recA ys) ∧ Below w.heap.size w W ∧ hb ≤ W.heap.size
theorem LI_own (gc gb gs hb : Nat) (cf : Array Value) (wv : Value) (mo : Nat) (ys : List Int) (w : World) (hw : w.heap.size ≤ hb) : OwnFrom hb (LI gc gb gs hb cf wv mo ys w) := by
  rintro pre X Y row ⟨⟨v, h1, h2⟩, h3, h4, h5, h6, h7⟩ hg hr
  have hr2 := fun r e => (hr r e).2
  exact ⟨⟨v, blk_keep h1 hg hr2, row_keep h2 hg hr2⟩, blk_keep h3 hg hr2, blk_keep h4 hg hr2, row_keep h5 hg hr2, h6.grown hg h6.size (fun k e => Nat.le_trans hw (hr k e).1), Nat.le_trans h7 hg.size⟩
theorem cells_at {w : World} {g : Nat} {T : TypeId} {cs : List Value} (h : Blk w g T cs.toArray) : ∀ j u, cs[j]? = some u → w.cell? ((⟨g, 0, none⟩ : Addr).add j) = some u := fun j u hu => by
  have := h.cell j
  rw [show (⟨g, 0, none⟩ : Addr).add j = ⟨g, j, none⟩ by simp [Addr.add]; try omega, this]
  simpa using hu
theorem recA_len (l : List Int) : (recA l).length = l.length * 4 := by
  induction l with
  | nil => rfl
  | cons x t ih =>
    have : recA (x :: t) = [.int .i64 2, .int .i64 x, .int .u64 0, .int .u64 0] ++ recA t := rfl
    rw [this, List.length_append, ih, List.length_cons]
    simp; omega
theorem recA_get (l : List Int) : ∀ (k : Nat) (h : k < l.length), (recA l)[k * 4]? = some (.int .i64 2) ∧ (recA l)[k * 4 + 1]? = some (.int .i64 l[k]) ∧ (recA l)[k * 4 + 2]? = some (.int .u64 0) ∧ (recA l)[k * 4 + 3]? = some (.int .u64 0) := by
  induction l with
  | nil => intro k h; simp at h
  | cons x t ih =>
    intro k h
    cases k with
    | zero => simp [recA]
    | succ k =>
      have e1 : (k + 1) * 4 = k * 4 + 4 := by omega
      have e2 : (k + 1) * 4 + 1 = k * 4 + 1 + 4 := by omega
      have e3 : (k + 1) * 4 + 2 = k * 4 + 2 + 4 := by omega
      have e4 : (k + 1) * 4 + 3 = k * 4 + 3 + 4 := by omega
      have := ih k (by simpa using h)
      have hc : recA (x :: t) = .int .i64 2 :: .int .i64 x :: .int .u64 0 :: .int .u64 0 :: recA t := rfl
      rw [e2, e3, e4, e1, hc]
      simpa using this
theorem row_ask {w : World} {base n k : Nat} {e : TypeId} {A : Option Addr} {c : Nat} {a : Nat → Int} (h : w.ownsRow base e 4 (.slice A n c) n (recA (aL a n))) (hk : k < n) : ∃ ad, A = some ad ∧ w.cell? (ad.add (k * 4)) = some (.int .i64 2) ∧ w.cell? ⟨(ad.add (k * 4)).block, (ad.add (k * 4)).off + 1, none⟩ = some (.int .i64 (a k)) ∧
    w.cell? ⟨(ad.add (k * 4)).block, (ad.add (k * 4)).off + 2, none⟩ = some (.int .u64 0) ∧ w.cell? ⟨(ad.add (k * 4)).block, (ad.add (k * 4)).off + 3, none⟩ = some (.int .u64 0) := by
  obtain ⟨A', c', e0, hr⟩ := own_reads h
  simp only [Value.slice.injEq, true_and] at e0
  obtain ⟨rfl, rfl⟩ := e0
  obtain ⟨ad, rfl, _, h0, h1⟩ := hr.row hk
  obtain ⟨y0, y1, y2, y3⟩ := recA_get (aL a n) k (by rw [aL_len]; exact hk)
  have hak : (aL a n)[k]'(by rw [aL_len]; exact hk) = a k := by simp [aL]
  rw [hak] at y1
  exact ⟨ad, rfl, (h0 (by omega)).trans y0, (h1 1 (by omega) (by omega)).trans y1, (h1 2 (by omega) (by omega)).trans y2, (h1 3 (by omega) (by omega)).trans y3⟩
theorem own_set1 {w : World} {base n g j : Nat} {e T : TypeId} {s : Nat} {v : Value} {xs : List Value} {cs : Array Value} (h : w.ownsRow base e s v n xs) (hb : Blk w g T cs) (hne : e ≠ T) (u : Value) : (w.setCell ⟨g, j, none⟩ u).ownsRow base e s v n xs :=
  h.kept (row := some g) ((show w.grownBy (w.setCell ⟨g, j, none⟩ u) (some g) from ⟨rfl, rfl, rfl, by rw [World.size_setCell]; exact Nat.le_refl _, fun k _ hk => Below.heap_setCell w ⟨g, j, none⟩ u k (fun e => hk (by rw [e]))⟩)) (.inr (own_blk_ne h hb hne))
theorem own_put8 {w : World} {base n g : Nat} {e T : TypeId} {s : Nat} {v : Value} {xs : List Value} {cs : Array Value} (h : w.ownsRow base e s v n xs) (hb : Blk w g T cs) (hne : e ≠ T) (v0 v1 v2 v3 v4 v5 v6 v7 : Value) : ((((((((w.setCell ⟨g, 0, none⟩ v0).setCell ⟨g, 1, none⟩ v1).setCell ⟨g, 2, none⟩ v2).setCell ⟨g, 3, none⟩ v3).setCell ⟨g, 4, none⟩ v4).setCell ⟨g, 5, none⟩ v5).setCell ⟨g, 6, none⟩ v6).setCell ⟨g, 7, none⟩ v7).ownsRow base e s v n xs := by
  have h0 := own_set1 (j := 0) h hb hne v0
  have b0 := hb.set_ 0 v0
  have h1 := own_set1 (j := 1) h0 b0 hne v1
  have b1 := b0.set_ 1 v1
  have h2 := own_set1 (j := 2) h1 b1 hne v2
  have b2 := b1.set_ 2 v2
  have h3 := own_set1 (j := 3) h2 b2 hne v3
  have b3 := b2.set_ 3 v3
  have h4 := own_set1 (j := 4) h3 b3 hne v4
  have b4 := b3.set_ 4 v4
  have h5 := own_set1 (j := 5) h4 b4 hne v5
  have b5 := b4.set_ 5 v5
  have h6 := own_set1 (j := 6) h5 b5 hne v6
  have b6 := b5.set_ 6 v6
  exact own_set1 (j := 7) h6 b6 hne v7
theorem deferred_put8 {w : World} {D g : Nat} {o : Obj} (h : w.heap[D]? = some o) (hne : D ≠ g) (v0 v1 v2 v3 v4 v5 v6 v7 : Value) : ((((((((w.setCell ⟨g, 0, none⟩ v0).setCell ⟨g, 1, none⟩ v1).setCell ⟨g, 2, none⟩ v2).setCell ⟨g, 3, none⟩ v3).setCell ⟨g, 4, none⟩ v4).setCell ⟨g, 5, none⟩ v5).setCell ⟨g, 6, none⟩ v6).setCell ⟨g, 7, none⟩ v7).heap[D]? = some o := by
  have hs := fun (W : World) (j : Nat) (u : Value) (hW : W.heap[D]? = some o) => (Below.heap_setCell W ⟨g, j, none⟩ u D hne).trans hW
  exact hs _ 7 v7 (hs _ 6 v6 (hs _ 5 v5 (hs _ 4 v4 (hs _ 3 v3 (hs _ 2 v2 (hs _ 1 v1 (hs _ 0 v0 h)))))))
theorem row_cells4 {w : World} {base n k : Nat} {e : TypeId} {ad : Addr} {c : Nat} {a : Nat → Int} (h : w.ownsRow base e 4 (.slice (some ad) n c) n (recA (aL a n))) (hk : k < n) : w.cell? (ad.add (k * 4)) = some (.int .i64 2) ∧ w.cell? ⟨(ad.add (k * 4)).block, (ad.add (k * 4)).off + 1, none⟩ = some (.int .i64 (a k)) ∧
    w.cell? ⟨(ad.add (k * 4)).block, (ad.add (k * 4)).off + 2, none⟩ = some (.int .u64 0) ∧ w.cell? ⟨(ad.add (k * 4)).block, (ad.add (k * 4)).off + 3, none⟩ = some (.int .u64 0) := by
  obtain ⟨a', e0, h'⟩ := row_ask h hk
  injection e0 with e0
  subst e0
  exact h'
def LR (gb gs gx D : Nat) (wv av : Value) (mo : Nat) (a : Nat → Int) (s2 t2 f2 l2 p2 th2 : Int) (w : World) (i : Value) (wr : World) : Prop :=
  ∃ k : Nat, i = .int .i64 k ∧ k ≤ mo ∧ Blk wr gx 46 (lvA s2 t2 f2 l2 p2 th2 ((mo - k : Nat) : Int) mo) ∧ Blk wr gs 62 #[av] ∧ Blk wr gb 4 #[.bool false] ∧ wr.ownsRow w.heap.size 39 4 av mo (recA (aL a mo)) ∧ wr.ownsRow w.heap.size 39 4 wv mo (recA (aL a mo)) ∧ Below w.heap.size w wr ∧ wr.heap[D]? = some (.deferred (some []))
set_option maxRecDepth 100000 in
set_option maxHeartbeats 4000000 in
theorem leaves17 (s t f l p th s' t' f' l' p' s2 t2 f2 l2 p2 th2 : Int) (sl : Bool) (A : Option Addr) (n c mo : Nat) (a : Nat → Int) (l0 : List Int) (w : World) (hT : Tab w) (hn : n ≤ 20) (hr : Reads w w.heap.size 1 A n (ints .u64 l0))
    (hL : LvSpec s' t' f' l' p' th s2 t2 f2 l2 p2 th2 sl mo a)
    (NL : ∀ w2, Below w.heap.size w w2 → Calls Tryd.prog 11 #[.agg #[.int .i64 s, .int .i64 t, .int .i64 f, .int .i64 l, .int .i64 p]] w2 fun e w' => e = .returned (.agg #[.int .i64 s', .int .i64 t', .int .i64 f', .int .i64 l', .int .i64 p']) ∧ Below w2.heap.size w2 w')
    (RL : ∀ w2, Calls Tryd.prog 29 #[.agg #[.int .i64 s, .int .i64 t, .int .i64 f, .int .i64 l, .int .i64 p], .int .i64 th, .bool sl] w2 fun e w' => (∃ v, e = .returned v ∧ w'.ownsRow w2.heap.size 39 4 v mo (recA (aL a mo))) ∧ Below w2.heap.size w2 w')
    (W0 : ∀ w2, Calls Tryd.prog 19 #[.agg (lvA s2 t2 f2 l2 p2 th2 0 mo)] w2 fun e w' => e = .returned (.agg #[.int .i64 0, .int .i64 0, .int .u64 0, .int .u64 0]) ∧ Below w2.heap.size w2 w')
    (T0 : ∀ g w2, Calls Tryd.prog 32 #[.agg (lvA s2 t2 f2 l2 p2 th2 0 mo), .int .u64 g] w2 fun e w' => e = .returned (.agg (lvA s2 t2 f2 l2 p2 th2 0 mo)) ∧ Below w2.heap.size w2 w') :
    CallsIn Fence.wide 5 Tryd.prog 6 #[.agg #[.int .i64 s, .int .i64 t, .int .i64 f, .int .i64 l, .int .i64 p], .int .i64 th, .bool sl, .slice A n c] w fun e W' => e = .returned (.bool true) ∧ Below w.heap.size w W' := by
  have hnf : ∀ (fn : Fn) (first cap : Array Value) (w : World), (binOp .eql 65 (.func fn first cap) .nilFunc).run Tryd.prog w = .ok (.bool false) w := fun _ _ _ _ => rfl
  obtain ⟨i0, hi, hz0, hz1, hz2⟩ := info_parts infoA
  have hmz : ¬ (20 : Int) < (n : Int) := by omega
  have HNL := hide NL
  have HRL := hide RL
  have HW0 := hide W0
  have HT0 := hide T0
  have HT := hide hT
  clear NL RL W0 T0 hT
  have B0 := ((Below.refl w.heap.size w).alloc (Nat.le_refl _) (.cells #[.int .i64 s, .int .i64 t, .int .i64 f, .int .i64 l, .int .i64 p] 23)).alloc (by simp only [World.size_alloc]; omega) (.cells #[.bool false] 4)
  have bc := (Blk.new w 23 #[.int .i64 s, .int .i64 t, .int .i64 f, .int .i64 l, .int .i64 p]).alloc (.cells #[.bool false] 4)
  have bb := Blk.new (w.alloc (.cells #[.int .i64 s, .int .i64 t, .int .i64 f, .int .i64 l, .int .i64 p] 23)) 4 #[.bool false]
  rw [World.size_alloc] at bb
  refine callsIn_of_wp_marks Tryd.func6 rfl trivial ?_ rfl
  simp only [Tryd.ntmps6, List.size_toArray, List.length_cons, List.length_nil, Nat.reduceAdd, Nat.reduceSub, Array.replicate_succ, Array.replicate_zero, List.push_toArray, List.append_toArray, List.nil_append, List.cons_append]
  have mc := fun i => bc.cell i
  gi_wp2
  refine ⟨trivial, ?_⟩
  refine (callsIn_wide.2 (HRL.out _)).mono ?_
  rintro e w1 ⟨⟨wv, rfl, orow⟩, hb1⟩
  replace orow := own_mono orow B0.size
  obtain ⟨Aw, cw, rfl, _⟩ := own_reads orow
  replace bc := bc.below hb1 bc.lt
  replace bb := bb.below hb1 bb.lt
  replace B0 := B0.trans (hb1.mono B0.size)
  clear mc hb1 HRL
  replace bc := bc.alloc (.cells #[.slice none 0 0] 62)
  replace bb := bb.alloc (.cells #[.slice none 0 0] 62)
  have bs := Blk.new w1 62 #[.slice none 0 0]
  replace orow := orow.alloc (.cells #[.slice none 0 0] 62)
  replace B0 := B0.alloc B0.size (.cells #[.slice none 0 0] 62)
  have hgs9 : w.heap.size ≤ w1.heap.size := by have := bb.lt; rw [World.size_alloc] at this; omega
  have mc := fun i => bc.cell i
  gi_wp2
  generalize w1.alloc (.cells #[.slice none 0 0] 62) = w2 at *
  generalize w1.heap.size = gs at *
  refine ⟨trivial, ?_⟩
  refine (callsIn_wide.2 (HNL.out _ B0)).mono ?_
  rintro e w3 ⟨rfl, hb1⟩
  replace bc := bc.below hb1 bc.lt
  replace bb := bb.below hb1 bb.lt
  replace bs := bs.below hb1 bs.lt
  replace orow := own_below orow hb1
  replace B0 := B0.trans (hb1.mono B0.size)
  clear mc hb1
  gi_wp2
  refine ⟨trivial, ?_⟩
  refine (leaves_in _ _ _ _ _ _ _ _ _).mono ?_
  rintro e w' ⟨rfl, rfl⟩
  gi_wp2
  have bl := ((Blk.new w3 27 #[.int .i64 s', .int .i64 t', .int .i64 f', .int .i64 l', .int .i64 p']).alloc (.cells #[.int .i64 th] 3)).alloc (.cells #[.bool sl] 4)
  have bt := (Blk.new (w3.alloc (.cells #[.int .i64 s', .int .i64 t', .int .i64 f', .int .i64 l', .int .i64 p'] 27)) 3 #[.int .i64 th]).alloc (.cells #[.bool sl] 4)
  have bo := Blk.new ((w3.alloc (.cells #[.int .i64 s', .int .i64 t', .int .i64 f', .int .i64 l', .int .i64 p'] 27)).alloc (.cells #[.int .i64 th] 3)) 4 #[.bool sl]
  have H9 := (((Below.refl w3.heap.size w3).alloc (Nat.le_refl _) (.cells #[.int .i64 s', .int .i64 t', .int .i64 f', .int .i64 l', .int .i64 p'] 27)).alloc (by simp only [World.size_alloc]; omega) (.cells #[.int .i64 th] 3)).alloc (by simp only [World.size_alloc]; omega) (.cells #[.bool sl] 4)
  simp only [World.size_alloc] at bt bo
  replace bc := bc.below H9 bc.lt
  replace bb := bb.below H9 bb.lt
  replace bs := bs.below H9 bs.lt
  replace orow := own_below orow H9
  replace B0 := B0.trans (H9.mono B0.size)
  clear H9
  generalize ((w3.alloc (.cells #[.int .i64 s', .int .i64 t', .int .i64 f', .int .i64 l', .int .i64 p'] 27)).alloc (.cells #[.int .i64 th] 3)).alloc (.cells #[.bool sl] 4) = w4 at *
  generalize w3.heap.size = g3 at *
  have HOW := hide (fun (k : Nat) (hk : (Value.slice Aw mo cw).ownBlock = some k) => (orow.lt k hk).2)
  have HW4 := hide B0.size
  have HGS := hide hgs9
  have HST := hide (leaves_stops hL 4 (by omega) g3 (g3 + 1) (g3 + 1 + 1) w4 bl bt bo)
  refine rangeFunc_laid (by omega) (gf := 65) (lb := #[.pointer (some ⟨g3, 0, none⟩), .pointer (some ⟨g3 + 1, 0, none⟩), .pointer (some ⟨g3 + 1 + 1, 0, none⟩)]) rfl (enters_of Tryd.func65 (by kernel_rfl) rfl)
    HST.out keepTy_t keepTy_b (fun x : Int => .cells #[.int .i64 2, .int .i64 x, .int .u64 0, .int .u64 0] 39) (fun W x => keepTy_below ((Below.refl _ _).alloc (Nat.le_refl _) _)) (fun _ => rfl)
    (LI w.heap.size (w.heap.size + 1) gs w4.heap.size #[.int .i64 s, .int .i64 t, .int .i64 f, .int .i64 l, .int .i64 p] (.slice Aw mo cw) mo (aL a mo) w) (LI_own _ _ _ _ _ _ _ _ _ HW4.out) ⟨⟨_, bs, World.ownsRow_nil _ _ _ _⟩, bc, bb, orow, B0, Nat.le_refl _⟩
    (fun (x : Int) (b : Nat) => { tmps := #[.agg #[.int .i64 s, .int .i64 t, .int .i64 f, .int .i64 l, .int .i64 p], .int .i64 th, .bool sl, .slice A n c, .pointer (some ⟨w.heap.size, 0, none⟩), undef, undef, undef, .pointer (some ⟨w.heap.size + 1, 0, none⟩), .slice Aw mo cw, .pointer (some ⟨gs, 0, none⟩), .func (.func 65) #[] #[.pointer (some ⟨g3, 0, none⟩), .pointer (some ⟨g3 + 1, 0, none⟩), .pointer (some ⟨g3 + 1 + 1, 0, none⟩)], .pointer (some ⟨b, 0, none⟩), undef, undef, undef, .slice A n c, .int .i64 n, .bool false, undef, .agg #[.int .i64 s, .int .i64 t, .int .i64 f, .int .i64 l, .int .i64 p], .int .i64 th, .bool sl, .slice Aw mo cw, .agg #[.int .i64 s, .int .i64 t, .int .i64 f, .int .i64 l, .int .i64 p], .agg #[.int .i64 s', .int .i64 t', .int .i64 f', .int .i64 l', .int .i64 p'], .int .i64 th, .bool sl, .func (.func 65) #[] #[.pointer (some ⟨g3, 0, none⟩), .pointer (some ⟨g3 + 1, 0, none⟩), .pointer (some ⟨g3 + 1 + 1, 0, none⟩)], .func (.func 65) #[] #[.pointer (some ⟨g3, 0, none⟩), .pointer (some ⟨g3 + 1, 0, none⟩), .pointer (some ⟨g3 + 1 + 1, 0, none⟩)], .bool false, .func (.func 65) #[] #[.pointer (some ⟨g3, 0, none⟩), .pointer (some ⟨g3 + 1, 0, none⟩), .pointer (some ⟨g3 + 1 + 1, 0, none⟩)], .agg #[.int .i64 2, .int .i64 x, .int .u64 0, .int .u64 0], undef, undef, undef, undef, undef, undef, undef, undef, undef, undef, undef, undef, undef, undef, undef, undef, undef, undef, undef, undef, undef, undef, undef, undef, undef, undef, undef, undef, undef, undef, undef, undef, undef, undef, undef, undef, undef, undef, undef, undef, undef, undef, undef, undef, undef, undef, undef, undef, undef, undef, undef, undef, undef, undef, undef, undef, undef, undef, undef, undef, undef, undef, undef, undef, undef, undef, undef, undef, undef, undef, undef, undef, undef, undef, undef], defers := [] }) ?assign ?body ?done
  case assign =>
    intro ld x W K hK
    gi_wp2
    exact hK
  case body =>
    rintro ld pre x b W hb9 hbl ⟨⟨v, bs, hrow⟩, bc, bb, orow, B0, hsz⟩ hlt
    have bx : Blk W b 39 #[.int .i64 2, .int .i64 x, .int .u64 0, .int .u64 0] := hb9
    have ms := fun i => bs.cell i
    have mx := fun i => bx.cell i
    have hml : pre.length + 1 ≤ maxLen := Nat.le_trans (show pre.length + 1 ≤ 60 by omega) (by decide)
    have hlz : ¬ (3 : Int) < (pre.length : Int) + 1 := by omega
    have hlz2 : ¬ (3 : Int) < ((pre.length + 1 : Nat) : Int) := by omega
    have hne : (Value.slice Aw mo cw).ownBlock = none ∨ (Value.slice Aw mo cw).ownBlock ≠ v.ownBlock := by
      cases h9 : (Value.slice Aw mo cw).ownBlock with
      | none => exact .inl rfl
      | some k =>
        refine .inr fun e => ?_
        have h1 := HOW.out k h9
        have h2 := (hrow.lt k e.symm).1
        omega
    have HNE := hide hne
    clear hne hb9
    have hrowA := hrow.alloc (.cells #[.int .i64 2, .int .i64 x, .int .u64 0, .int .u64 0] 39)
    have bsA := bs.alloc (.cells #[.int .i64 2, .int .i64 x, .int .u64 0, .int .u64 0] 39)
    gi_wp2_with (gi_at_builtin; refine Stop9.out ?_)
    refine ⟨?_⟩
    refine wpListIn_append_own _ rfl _ _ 62 rfl w4.heap.size 39 i0 _ 4 32 Tryd.underlying62 hi hz0 hz1 hz2 rfl (by decide) _ _ _ rfl hrowA ⟨W.heap.size, 0, none⟩ 1 1 [.int .i64 2, .int .i64 x, .int .u64 0, .int .u64 0] rfl rfl (cells_at (Blk.new W 39 #[.int .i64 2, .int .i64 x, .int .u64 0, .int .u64 0])) (by intro u hu; simp at hu; rcases hu with rfl | rfl | rfl | rfl <;> rfl) (by omega) (by omega) (by simp; omega) ?_
    intro v' w5 hown' hgrow _
    obtain ⟨g', cap', rfl⟩ := ownsRow_succ hown'
    have bs1 := bsA.grown hgrow (own_blk_ne hrowA bsA (by decide)).symm
    have hc1 := bs1.cell 0
    have hf1 := bs1.frozen 0
    have hnv := own_blk_ne hown' bs1 (by decide)
    have hbs2 := blk_set1 bs1 (.slice (some ⟨g', 0, none⟩) (pre.length + 1) cap')
    have hk1 := (keepTy_t (keepTy_t (keepTy_below ((Below.refl W.heap.size W).alloc (Nat.le_refl _) (.cells #[.int .i64 2, .int .i64 x, .int .u64 0, .int .u64 0] 39))) (keepTy_own hrowA hgrow (by decide))) (keepTy_set (T := 46) (f := 0) bs1 (by decide) (.slice (some ⟨g', 0, none⟩) (pre.length + 1) cap')) : KeepTy 46 W _)
    have hk2 := ((KeepsOthers.alloc W (.cells #[.int .i64 2, .int .i64 x, .int .u64 0, .int .u64 0] 39)).trans (KeepsOthers.of_grownBy hgrow (row_cells hrowA))).trans (KeepsOthers.setCell w5 ⟨gs, 0, none⟩ (.slice (some ⟨g', 0, none⟩) (pre.length + 1) cap'))
    have hG2 := grownBy_setCell' w5 gs (.slice (some ⟨g', 0, none⟩) (pre.length + 1) cap')
    have hr2 := hown'.kept hG2 (.inr hnv)
    have hcb : Blk (w5.setCell ⟨gs, 0, none⟩ (.slice (some ⟨g', 0, none⟩) (pre.length + 1) cap')) w.heap.size 23 #[.int .i64 s, .int .i64 t, .int .i64 f, .int .i64 l, .int .i64 p] :=
      ((bc.alloc (.cells #[.int .i64 2, .int .i64 x, .int .u64 0, .int .u64 0] 39)).grown hgrow (own_blk_ne hrowA (bc.alloc (.cells #[.int .i64 2, .int .i64 x, .int .u64 0, .int .u64 0] 39)) (by decide)).symm).far (p := ⟨gs, 0, none⟩) (bc.ne_ bs (by decide)) _
    have hbb : Blk (w5.setCell ⟨gs, 0, none⟩ (.slice (some ⟨g', 0, none⟩) (pre.length + 1) cap')) (w.heap.size + 1) 4 #[.bool false] :=
      ((bb.alloc (.cells #[.int .i64 2, .int .i64 x, .int .u64 0, .int .u64 0] 39)).grown hgrow (own_blk_ne hrowA (bb.alloc (.cells #[.int .i64 2, .int .i64 x, .int .u64 0, .int .u64 0] 39)) (by decide)).symm).far (p := ⟨gs, 0, none⟩) (bb.ne_ bs (by decide)) _
    have ho1 := (orow.alloc (.cells #[.int .i64 2, .int .i64 x, .int .u64 0, .int .u64 0] 39)).kept hgrow HNE.out
    have ho2 := ho1.kept hG2 (.inr (own_blk_ne ho1 bs1 (by decide)))
    have hB9 := (((Below.refl w.heap.size W).alloc B0.size (.cells #[.int .i64 2, .int .i64 x, .int .u64 0, .int .u64 0] 39)).grown hgrow (by rw [World.size_alloc]; have := B0.size; omega) (fun k e => Nat.le_trans HW4.out (hrowA.lt k e).1)).setCell (p := ⟨gs, 0, none⟩) HGS.out (.slice (some ⟨g', 0, none⟩) (pre.length + 1) cap')
    have hz9 := Nat.le_trans hsz hk2.size
    have HFIN := hide (fun (a9 : Act) => show goesOn w4.heap.size (KeepTy 46) (LI w.heap.size (w.heap.size + 1) gs w4.heap.size #[.int .i64 s, .int .i64 t, .int .i64 f, .int .i64 l, .int .i64 p] (.slice Aw mo cw) mo (aL a mo) w) (pre ++ [x]) W .normal a9 (w5.setCell ⟨gs, 0, none⟩ (.slice (some ⟨g', 0, none⟩) (pre.length + 1) cap')) from
      ⟨hk2.from _, hk1, ⟨⟨_, hbs2, by rw [List.length_append, recA_app]; exact hr2⟩, hcb, hbb, ho2, B0.trans hB9, hz9⟩⟩)
    clear hk1 hk2 hr2 hcb hbb ho1 ho2 hB9 hz9 hG2 hnv hown' hgrow hrowA hrow bc bb orow B0 mx ms bx bs bsA HOW HNE HST HNL HW0 HT0 HT
    have hc2 := hbs2.cell 0
    gi_wp2
    exact HFIN.out _
  case done =>
    rintro D ys W hD rfl ⟨⟨v, bs, hrow⟩, bc, bb, orow, B0, hsz⟩ hK
    rw [aL_len] at hrow
    obtain ⟨Ag, cg, rfl, _⟩ := own_reads hrow
    have hDL := (Array.getElem?_eq_some_iff.1 hK).1
    have hDK := hK
    have HDW := hide (show w.heap.size ≤ D by have := HW4.out; omega)
    replace hrow := own_mono hrow HW4.out
    clear HOW HGS HST hi hz0 hz1 hz2 hK hD hsz hmz HW4
    have ms := fun i => bs.cell i
    have mc := fun i => bc.cell i
    gi_wp2
    refine ⟨trivial, ?_⟩
    refine (callsIn_wide.2 (HNL.out _ B0)).mono ?_
    rintro e w5 ⟨rfl, hb1⟩
    clear ms mc
    replace bs := bs.below hb1 bs.lt
    replace bc := bc.below hb1 bc.lt
    replace bb := bb.below hb1 bb.lt
    replace hrow := own_below hrow hb1
    replace orow := own_below orow hb1
    replace hDK := (hb1.block D hDL).trans hDK
    replace hDL := Nat.lt_of_lt_of_le hDL hb1.size
    replace B0 := B0.trans (hb1.mono B0.size)
    clear hb1
    gi_wp2
    refine ⟨trivial, ?_⟩
    refine (callsIn_wide.2 (hL.new _)).mono ?_
    rintro e w6 ⟨rfl, hb1⟩
    replace bs := bs.below hb1 bs.lt
    replace bc := bc.below hb1 bc.lt
    replace bb := bb.below hb1 bb.lt
    replace hrow := own_below hrow hb1
    replace orow := own_below orow hb1
    replace hDK := (hb1.block D hDL).trans hDK
    replace hDL := Nat.lt_of_lt_of_le hDL hb1.size
    replace B0 := B0.trans (hb1.mono B0.size)
    clear hb1
    gi_wp2
    have bx := Blk.new w6 46 (lvA s2 t2 f2 l2 p2 th2 mo mo)
    have hb1 := (Below.refl w6.heap.size w6).alloc (Nat.le_refl _) (.cells (lvA s2 t2 f2 l2 p2 th2 mo mo) 46)
    replace bs := bs.below hb1 bs.lt
    replace bb := bb.below hb1 bb.lt
    replace hrow := own_below hrow hb1
    replace orow := own_below orow hb1
    replace hDK := (hb1.block D hDL).trans hDK
    have hsz6 := B0.size
    replace B0 := B0.trans (hb1.mono B0.size)
    clear hb1
    have HGX := hide (show w.heap.size ≤ w6.heap.size by omega)
    generalize w6.alloc (.cells (lvA s2 t2 f2 l2 p2 th2 mo mo) 46) = w7 at *
    generalize w6.heap.size = gx at *
    have HL := hide hL
    have hmo := hL.hmo
    clear hL hnf
    refine wpIn_wide.2 ?_
    go_loopw [14] (LR (w.heap.size + 1) gs gx D (.slice Aw mo cw) (.slice Ag mo cg) mo a s2 t2 f2 l2 p2 th2 w) (fun i _ => mo - (intOf i).toNat)
    case atStart => exact ⟨0, rfl, Nat.zero_le _, bx, bs, bb, hrow, orow, B0, hDK⟩
    case round =>
      clear bx bs bb hrow orow B0 hDK hDL bc
      obtain ⟨k, rfl, hk, bx, bs, bb, hrow, orow, B0, hDK⟩ := hrel
      have hDL := (Array.getElem?_eq_some_iff.1 hDK).1
      by_cases hlt : k < mo
      · have Dn := hide (HL.out.done (mo - k))
        rw [show decide (mo - k = 0) = false by rw [decide_eq_false_iff_not]; omega] at Dn
        have Wt := hide (HL.out.want k hlt)
        have Tk := hide (HL.out.took k hlt)
        obtain ⟨ag, rfl, x0, x1, x2, x3⟩ := row_ask hrow hlt
        obtain ⟨aw, rfl, y0, y1, y2, y3⟩ := row_ask orow hlt
        have XC := hide (fun (w9 : World) (h : w9.ownsRow w.heap.size 39 4 (.slice (some ag) mo cg) mo (recA (aL a mo))) => row_cells4 h hlt)
        have YC := hide (fun (w9 : World) (h : w9.ownsRow w.heap.size 39 4 (.slice (some aw) mo cw) mo (recA (aL a mo))) => row_cells4 h hlt)
        have hq := ask_neq 2 (a k) 0 0
        have hkz : (k : Int) < (mo : Int) := by omega
        have hkw : IntKind.u64.wrap (k : Int) = (k : Int) := IntWalk.u64_in _ (by omega)
        obtain ⟨j1, hj1⟩ : ∃ j1, j1 = ((mo - (k + 1) : Nat) : Int) := ⟨_, rfl⟩
        rw [← hj1] at Tk
        have Hj1 := hide hj1
        generalize ((mo - k : Nat) : Int) = j at *
        clear hj1 x0 x1 x2 x3 y0 y1 y2 y3 HL
        by_cases hkn : k < n
        · obtain ⟨al, rfl, hkl, z1⟩ := (hr.below B0).word hkn
          have hk2 : (k : Int) < (n : Int) := by omega
          generalize l0[k] = q at *
          go_wp2_with fail
          clear z1 hk2
          refine wp_onlyN ?_
          refine wp_region_heldZ [] (fun w' => w'.cell? ⟨gs, 0, none⟩ = some (.slice (some ag) mo cg) ∧ w'.cell? ⟨gx, 0, none⟩ = some (.int .i64 s2) ∧ w'.cell? ⟨gx, 1, none⟩ = some (.int .i64 t2) ∧ w'.cell? ⟨gx, 2, none⟩ = some (.int .i64 f2) ∧ w'.cell? ⟨gx, 3, none⟩ = some (.int .i64 l2) ∧ w'.cell? ⟨gx, 4, none⟩ = some (.int .i64 p2) ∧ w'.cell? ⟨gx, 5, none⟩ = some (.int .i64 th2) ∧ w'.cell? ⟨gx, 6, none⟩ = some (.int .i64 j) ∧ w'.cell? ⟨gx, 7, none⟩ = some (.int .i64 mo) ∧ (w'.cell? (ag.add (k * 4)) = some (.int .i64 2) ∧ w'.cell? ⟨(ag.add (k * 4)).block, (ag.add (k * 4)).off + 1, none⟩ = some (.int .i64 (a k)) ∧ w'.cell? ⟨(ag.add (k * 4)).block, (ag.add (k * 4)).off + 2, none⟩ = some (.int .u64 0) ∧ w'.cell? ⟨(ag.add (k * 4)).block, (ag.add (k * 4)).off + 3, none⟩ = some (.int .u64 0)) ∧ (w'.cell? (aw.add (k * 4)) = some (.int .i64 2) ∧ w'.cell? ⟨(aw.add (k * 4)).block, (aw.add (k * 4)).off + 1, none⟩ = some (.int .i64 (a k)) ∧ w'.cell? ⟨(aw.add (k * 4)).block, (aw.add (k * 4)).off + 2, none⟩ = some (.int .u64 0) ∧ w'.cell? ⟨(aw.add (k * 4)).block, (aw.add (k * 4)).off + 3, none⟩ = some (.int .u64 0))) (by kernel_rfl) (by exact ⟨bs.cell 0, bx.cell 0, bx.cell 1, bx.cell 2, bx.cell 3, bx.cell 4, bx.cell 5, bx.cell 6, bx.cell 7, XC.out _ hrow, YC.out _ orow⟩) (fun hHeld => ?_)
          replace bx := bx.drew
          replace bs := bs.drew
          replace bb := bb.drew
          replace hrow := (show wr.drew.ownsRow _ _ _ _ _ _ from hrow)
          replace orow := (show wr.drew.ownsRow _ _ _ _ _ _ from orow)
          replace hDK := (show wr.drew.heap[D]? = _ from hDK)
          replace hDL := (show D < wr.drew.heap.size from hDL)
          replace B0 := B0.drew
          generalize wr.drew = w0x at *
          refine' wpAnyZ_takeA (i := 0) (v := ?_) (opAt rfl) (by kernel_rfl) (by kernel_rfl) (by kernel_rfl) (by kernel_rfl) (fun _ _ _ h => h) (by assumption) (by rfl) (fun w hSw => ?_) ?_
          rotate_left
          · (try dsimp only at hSw); go_simp; (try with_reducible rfl)
          try simp only [Act.put, List.setIfInBounds_toArray, List.set_cons_zero, List.set_cons_succ]
          refine' wpAnyZ_takeA (i := 1) (v := ?_) (opAt rfl) (by kernel_rfl) (by kernel_rfl) (by kernel_rfl) (by kernel_rfl) (fun _ _ _ h => h) (by assumption) (by rfl) (fun w hSw => ?_) ?_
          rotate_left
          · (try dsimp only at hSw); go_simp; (try with_reducible rfl)
          try simp only [Act.put, List.setIfInBounds_toArray, List.set_cons_zero, List.set_cons_succ]
          refine' wpAnyZ_takeA (i := 2) (v := ?_) (opAt rfl) (by kernel_rfl) (by kernel_rfl) (by kernel_rfl) (by kernel_rfl) (fun _ _ _ h => h) (by assumption) (by rfl) (fun w hSw => ?_) ?_
          rotate_left
          · (try dsimp only at hSw); go_simp; (try with_reducible rfl)
          try simp only [Act.put, List.setIfInBounds_toArray, List.set_cons_zero, List.set_cons_succ]
          refine' wpAnyZ_takeA (i := 3) (v := ?_) (opAt rfl) (by kernel_rfl) (by kernel_rfl) (by kernel_rfl) (by kernel_rfl) (fun _ _ _ h => h) (by assumption) (by rfl) (fun w hSw => ?_) ?_
          rotate_left
          · (try dsimp only at hSw); go_simp; (try with_reducible rfl)
          try simp only [Act.put, List.setIfInBounds_toArray, List.set_cons_zero, List.set_cons_succ]
          refine' wpAnyZ_takeA (i := 4) (v := ?_) (opAt rfl) (by kernel_rfl) (by kernel_rfl) (by kernel_rfl) (by kernel_rfl) (fun _ _ _ h => h) (by assumption) (by rfl) (fun w hSw => ?_) ?_
          rotate_left
          · (try dsimp only at hSw); go_simp; (try with_reducible rfl)
          try simp only [Act.put, List.setIfInBounds_toArray, List.set_cons_zero, List.set_cons_succ]
          refine' wpAnyZ_takeA (i := 5) (v := ?_) (opAt rfl) (by kernel_rfl) (by kernel_rfl) (by kernel_rfl) (by kernel_rfl) (fun _ _ _ h => h) (by assumption) (by rfl) (fun w hSw => ?_) ?_
          rotate_left
          · (try dsimp only at hSw); go_simp; (try with_reducible rfl)
          try simp only [Act.put, List.setIfInBounds_toArray, List.set_cons_zero, List.set_cons_succ]
          refine' wpAnyZ_takeA (i := 6) (v := ?_) (opAt rfl) (by kernel_rfl) (by kernel_rfl) (by kernel_rfl) (by kernel_rfl) (fun _ _ _ h => h) (by assumption) (by rfl) (fun w hSw => ?_) ?_
          rotate_left
          · (try dsimp only at hSw); go_simp; (try with_reducible rfl)
          try simp only [Act.put, List.setIfInBounds_toArray, List.set_cons_zero, List.set_cons_succ]
          refine' wpAnyZ_takeA (i := 7) (v := ?_) (opAt rfl) (by kernel_rfl) (by kernel_rfl) (by kernel_rfl) (by kernel_rfl) (fun _ _ _ h => h) (by assumption) (by rfl) (fun w hSw => ?_) ?_
          rotate_left
          · (try dsimp only at hSw); go_simp; (try with_reducible rfl)
          try simp only [Act.put, List.setIfInBounds_toArray, List.set_cons_zero, List.set_cons_succ]
          refine' wpAnyZ_takeA (i := 8) (v := ?_) (opAt rfl) (by kernel_rfl) (by kernel_rfl) (by kernel_rfl) (by kernel_rfl) (fun _ _ _ h => h) (by assumption) (by rfl) (fun w hSw => ?_) ?_
          rotate_left
          · (try dsimp only at hSw); go_simp; (try with_reducible rfl)
          try simp only [Act.put, List.setIfInBounds_toArray, List.set_cons_zero, List.set_cons_succ]
          refine' wpAnyZ_takeA (i := 9) (v := ?_) (opAt rfl) (by kernel_rfl) (by kernel_rfl) (by kernel_rfl) (by kernel_rfl) (fun _ _ _ h => h) (by assumption) (by rfl) (fun w hSw => ?_) ?_
          rotate_left
          · (try dsimp only at hSw); go_simp; (try with_reducible rfl)
          try simp only [Act.put, List.setIfInBounds_toArray, List.set_cons_zero, List.set_cons_succ]
          refine' wpAnyZ_takeA (i := 10) (v := ?_) (opAt rfl) (by kernel_rfl) (by kernel_rfl) (by kernel_rfl) (by kernel_rfl) (fun _ _ _ h => h) (by assumption) (by rfl) (fun w hSw => ?_) ?_
          rotate_left
          · (try dsimp only at hSw); go_simp; (try with_reducible rfl)
          try simp only [Act.put, List.setIfInBounds_toArray, List.set_cons_zero, List.set_cons_succ]
          refine wpAnyZ_ready (rs := [11]) (by kernel_rfl) (by simp) ?_
          refine AllReadyZ.cons (opAt rfl) (fun K hK => ?_) ?_
          · skip
            go_simp
            refine (Dn.out _).mono ?_
            rintro e wd ⟨rfl, hb1⟩
            replace bx := bx.below hb1 bx.lt
            replace bs := bs.below hb1 bs.lt
            replace bb := bb.below hb1 bb.lt
            replace hrow := own_below hrow hb1
            replace orow := own_below orow hb1
            replace hDK := (hb1.block D hDL).trans hDK
            replace hDL := Nat.lt_of_lt_of_le hDL hb1.size
            replace B0 := B0.trans (hb1.mono B0.size)
            clear hb1
            try go_wp2_with fail
            refine hK.out _ _ (by exact ⟨bs.cell 0, bx.cell 0, bx.cell 1, bx.cell 2, bx.cell 3, bx.cell 4, bx.cell 5, bx.cell 6, bx.cell 7, XC.out _ hrow, YC.out _ orow⟩) (fun hHeld => ?_)
            clear hK K
            try simp only [Act.put, List.setIfInBounds_toArray, List.set_cons_zero, List.set_cons_succ]
            refine' wpAnyZ_takeA (i := 12) (v := ?_) (opAt rfl) (by kernel_rfl) (by kernel_rfl) (by kernel_rfl) (by kernel_rfl) (fun _ _ _ h => h) (by assumption) (by rfl) (fun w hSw => ?_) ?_
            rotate_left
            · (try dsimp only at hSw); go_simp; (try with_reducible rfl)
            try simp only [Act.put, List.setIfInBounds_toArray, List.set_cons_zero, List.set_cons_succ]
            refine' wpAnyZ_takeA (i := 13) (v := ?_) (opAt rfl) (by kernel_rfl) (by kernel_rfl) (by kernel_rfl) (by kernel_rfl) (fun _ _ _ h => h) (by assumption) (by rfl) (fun w hSw => ?_) ?_
            rotate_left
            · (try dsimp only at hSw); go_simp; (try with_reducible rfl)
            try simp only [Act.put, List.setIfInBounds_toArray, List.set_cons_zero, List.set_cons_succ]
            refine' wpAnyZ_takeA (i := 14) (v := ?_) (opAt rfl) (by kernel_rfl) (by kernel_rfl) (by kernel_rfl) (by kernel_rfl) (fun _ _ _ h => h) (by assumption) (by rfl) (fun w hSw => ?_) ?_
            rotate_left
            · (try dsimp only at hSw); go_simp; (try with_reducible rfl)
            try simp only [Act.put, List.setIfInBounds_toArray, List.set_cons_zero, List.set_cons_succ]
            refine' wpAnyZ_takeA (i := 16) (v := ?_) (opAt rfl) (by kernel_rfl) (by kernel_rfl) (by kernel_rfl) (by kernel_rfl) (fun _ _ _ h => h) (by assumption) (by rfl) (fun w hSw => ?_) ?_
            rotate_left
            · (try dsimp only at hSw); go_simp; (try with_reducible rfl)
            try simp only [Act.put, List.setIfInBounds_toArray, List.set_cons_zero, List.set_cons_succ]
            refine' wpAnyZ_takeA (i := 17) (v := ?_) (opAt rfl) (by kernel_rfl) (by kernel_rfl) (by kernel_rfl) (by kernel_rfl) (fun _ _ _ h => h) (by assumption) (by rfl) (fun w hSw => ?_) ?_
            rotate_left
            · (try dsimp only at hSw); go_simp; (try with_reducible rfl)
            try simp only [Act.put, List.setIfInBounds_toArray, List.set_cons_zero, List.set_cons_succ]
            refine' wpAnyZ_takeA (i := 18) (v := ?_) (opAt rfl) (by kernel_rfl) (by kernel_rfl) (by kernel_rfl) (by kernel_rfl) (fun _ _ _ h => h) (by assumption) (by rfl) (fun w hSw => ?_) ?_
            rotate_left
            · (try dsimp only at hSw); go_simp; (try with_reducible rfl)
            try simp only [Act.put, List.setIfInBounds_toArray, List.set_cons_zero, List.set_cons_succ]
            refine' wpAnyZ_takeA (i := 19) (v := ?_) (opAt rfl) (by kernel_rfl) (by kernel_rfl) (by kernel_rfl) (by kernel_rfl) (fun _ _ _ h => h) (by assumption) (by rfl) (fun w hSw => ?_) ?_
            rotate_left
            · (try dsimp only at hSw); go_simp; (try with_reducible rfl)
            try simp only [Act.put, List.setIfInBounds_toArray, List.set_cons_zero, List.set_cons_succ]
            refine wpAnyZ_ready (rs := [15]) (by kernel_rfl) (by simp) ?_
            refine AllReadyZ.cons (opAt rfl) (fun K hK => ?_) ?_
            · skip
              go_simp
              refine (Wt.out _).mono ?_
              rintro e wv ⟨rfl, hb1⟩
              replace bx := bx.below hb1 bx.lt
              replace bs := bs.below hb1 bs.lt
              replace bb := bb.below hb1 bb.lt
              replace hrow := own_below hrow hb1
              replace orow := own_below orow hb1
              replace hDK := (hb1.block D hDL).trans hDK
              replace hDL := Nat.lt_of_lt_of_le hDL hb1.size
              replace B0 := B0.trans (hb1.mono B0.size)
              clear hb1
              try go_wp2_with fail
              refine hK.out _ _ (by exact ⟨bs.cell 0, bx.cell 0, bx.cell 1, bx.cell 2, bx.cell 3, bx.cell 4, bx.cell 5, bx.cell 6, bx.cell 7, XC.out _ hrow, YC.out _ orow⟩) (fun hHeld => ?_)
              clear hK K
              try simp only [Act.put, List.setIfInBounds_toArray, List.set_cons_zero, List.set_cons_succ]
              refine' wpAnyZ_takeA (i := 20) (v := ?_) (opAt rfl) (by kernel_rfl) (by kernel_rfl) (by kernel_rfl) (by kernel_rfl) (fun _ _ _ h => h) (by assumption) (by rfl) (fun w hSw => ?_) ?_
              rotate_left
              · (try dsimp only at hSw); go_simp; (try with_reducible rfl)
              try simp only [Act.put, List.setIfInBounds_toArray, List.set_cons_zero, List.set_cons_succ]
              refine' wpAnyZ_takeA (i := 21) (v := ?_) (opAt rfl) (by kernel_rfl) (by kernel_rfl) (by kernel_rfl) (by kernel_rfl) (fun _ _ _ h => h) (by assumption) (by rfl) (fun w hSw => ?_) ?_
              rotate_left
              · (try dsimp only at hSw); go_simp; (try with_reducible rfl)
              try simp only [Act.put, List.setIfInBounds_toArray, List.set_cons_zero, List.set_cons_succ]
              refine wpAnyZ_done (by kernel_rfl) ?_ _
              refine onlyN_normal ?_
              have mx := fun i => bx.cell i
              have fx := fun i => bx.frozen i
              go_wp2_with fail
              refine (Tk.out _ _).mono ?_
              rintro e wt ⟨rfl, hb1⟩
              clear mx fx
              replace bx := bx.below hb1 bx.lt
              replace bs := bs.below hb1 bs.lt
              replace bb := bb.below hb1 bb.lt
              replace hrow := own_below hrow hb1
              replace orow := own_below orow hb1
              replace hDK := (hb1.block D hDL).trans hDK
              replace hDL := Nat.lt_of_lt_of_le hDL hb1.size
              replace B0 := B0.trans (hb1.mono B0.size)
              clear hb1
              have mx := fun i => bx.cell i
              have fx := fun i => bx.frozen i
              go_wp2_with fail
              have hs9 := bs.off8 (bs.ne_ bx (by decide)) (.int .i64 s2) (.int .i64 t2) (.int .i64 f2) (.int .i64 l2) (.int .i64 p2) (.int .i64 th2) (.int .i64 j1) (.int .i64 mo)
              have hb9 := bb.off8 (bb.ne_ bx (by decide)) (.int .i64 s2) (.int .i64 t2) (.int .i64 f2) (.int .i64 l2) (.int .i64 p2) (.int .i64 th2) (.int .i64 j1) (.int .i64 mo)
              have hr9 := own_put8 hrow bx (by decide) (.int .i64 s2) (.int .i64 t2) (.int .i64 f2) (.int .i64 l2) (.int .i64 p2) (.int .i64 th2) (.int .i64 j1) (.int .i64 mo)
              have ho9 := own_put8 orow bx (by decide) (.int .i64 s2) (.int .i64 t2) (.int .i64 f2) (.int .i64 l2) (.int .i64 p2) (.int .i64 th2) (.int .i64 j1) (.int .i64 mo)
              have hB9 := below_put8 B0 (g := gx) HGX.out (.int .i64 s2) (.int .i64 t2) (.int .i64 f2) (.int .i64 l2) (.int .i64 p2) (.int .i64 th2) (.int .i64 j1) (.int .i64 mo)
              have hx9 := bx.put8 (.int .i64 s2) (.int .i64 t2) (.int .i64 f2) (.int .i64 l2) (.int .i64 p2) (.int .i64 th2) (.int .i64 j1) (.int .i64 mo)
              have hd9 := deferred_put8 hDK (g := gx) (by intro e; rw [e] at hDK; rw [show _ = some (Obj.cells _ _ _) from bx] at hDK; cases hDK) (.int .i64 s2) (.int .i64 t2) (.int .i64 f2) (.int .i64 l2) (.int .i64 p2) (.int .i64 th2) (.int .i64 j1) (.int .i64 mo)
              go_roundw
              case measure => simp [intOf]; omega
              case rel => exact ⟨k + 1, by go_num, by omega, by rw [← Hj1.out]; exact hx9, hs9, hb9, hr9, ho9, hB9, hd9⟩
            exact AllReadyZ.nil
          exact AllReadyZ.nil
        · have hk2 : ¬ (k : Int) < (n : Int) := by omega
          go_wp2_with fail
          clear hk2
          refine wp_onlyN ?_
          refine wp_region_heldZ [] (fun w' => w'.cell? ⟨gs, 0, none⟩ = some (.slice (some ag) mo cg) ∧ w'.cell? ⟨gx, 0, none⟩ = some (.int .i64 s2) ∧ w'.cell? ⟨gx, 1, none⟩ = some (.int .i64 t2) ∧ w'.cell? ⟨gx, 2, none⟩ = some (.int .i64 f2) ∧ w'.cell? ⟨gx, 3, none⟩ = some (.int .i64 l2) ∧ w'.cell? ⟨gx, 4, none⟩ = some (.int .i64 p2) ∧ w'.cell? ⟨gx, 5, none⟩ = some (.int .i64 th2) ∧ w'.cell? ⟨gx, 6, none⟩ = some (.int .i64 j) ∧ w'.cell? ⟨gx, 7, none⟩ = some (.int .i64 mo) ∧ (w'.cell? (ag.add (k * 4)) = some (.int .i64 2) ∧ w'.cell? ⟨(ag.add (k * 4)).block, (ag.add (k * 4)).off + 1, none⟩ = some (.int .i64 (a k)) ∧ w'.cell? ⟨(ag.add (k * 4)).block, (ag.add (k * 4)).off + 2, none⟩ = some (.int .u64 0) ∧ w'.cell? ⟨(ag.add (k * 4)).block, (ag.add (k * 4)).off + 3, none⟩ = some (.int .u64 0)) ∧ (w'.cell? (aw.add (k * 4)) = some (.int .i64 2) ∧ w'.cell? ⟨(aw.add (k * 4)).block, (aw.add (k * 4)).off + 1, none⟩ = some (.int .i64 (a k)) ∧ w'.cell? ⟨(aw.add (k * 4)).block, (aw.add (k * 4)).off + 2, none⟩ = some (.int .u64 0) ∧ w'.cell? ⟨(aw.add (k * 4)).block, (aw.add (k * 4)).off + 3, none⟩ = some (.int .u64 0))) (by kernel_rfl) (by exact ⟨bs.cell 0, bx.cell 0, bx.cell 1, bx.cell 2, bx.cell 3, bx.cell 4, bx.cell 5, bx.cell 6, bx.cell 7, XC.out _ hrow, YC.out _ orow⟩) (fun hHeld => ?_)
          replace bx := bx.drew
          replace bs := bs.drew
          replace bb := bb.drew
          replace hrow := (show wr.drew.ownsRow _ _ _ _ _ _ from hrow)
          replace orow := (show wr.drew.ownsRow _ _ _ _ _ _ from orow)
          replace hDK := (show wr.drew.heap[D]? = _ from hDK)
          replace hDL := (show D < wr.drew.heap.size from hDL)
          replace B0 := B0.drew
          generalize wr.drew = w0x at *
          refine' wpAnyZ_takeA (i := 0) (v := ?_) (opAt rfl) (by kernel_rfl) (by kernel_rfl) (by kernel_rfl) (by kernel_rfl) (fun _ _ _ h => h) (by assumption) (by rfl) (fun w hSw => ?_) ?_
          rotate_left
          · (try dsimp only at hSw); go_simp; (try with_reducible rfl)
          try simp only [Act.put, List.setIfInBounds_toArray, List.set_cons_zero, List.set_cons_succ]
          refine' wpAnyZ_takeA (i := 1) (v := ?_) (opAt rfl) (by kernel_rfl) (by kernel_rfl) (by kernel_rfl) (by kernel_rfl) (fun _ _ _ h => h) (by assumption) (by rfl) (fun w hSw => ?_) ?_
          rotate_left
          · (try dsimp only at hSw); go_simp; (try with_reducible rfl)
          try simp only [Act.put, List.setIfInBounds_toArray, List.set_cons_zero, List.set_cons_succ]
          refine' wpAnyZ_takeA (i := 2) (v := ?_) (opAt rfl) (by kernel_rfl) (by kernel_rfl) (by kernel_rfl) (by kernel_rfl) (fun _ _ _ h => h) (by assumption) (by rfl) (fun w hSw => ?_) ?_
          rotate_left
          · (try dsimp only at hSw); go_simp; (try with_reducible rfl)
          try simp only [Act.put, List.setIfInBounds_toArray, List.set_cons_zero, List.set_cons_succ]
          refine' wpAnyZ_takeA (i := 3) (v := ?_) (opAt rfl) (by kernel_rfl) (by kernel_rfl) (by kernel_rfl) (by kernel_rfl) (fun _ _ _ h => h) (by assumption) (by rfl) (fun w hSw => ?_) ?_
          rotate_left
          · (try dsimp only at hSw); go_simp; (try with_reducible rfl)
          try simp only [Act.put, List.setIfInBounds_toArray, List.set_cons_zero, List.set_cons_succ]
          refine' wpAnyZ_takeA (i := 4) (v := ?_) (opAt rfl) (by kernel_rfl) (by kernel_rfl) (by kernel_rfl) (by kernel_rfl) (fun _ _ _ h => h) (by assumption) (by rfl) (fun w hSw => ?_) ?_
          rotate_left
          · (try dsimp only at hSw); go_simp; (try with_reducible rfl)
          try simp only [Act.put, List.setIfInBounds_toArray, List.set_cons_zero, List.set_cons_succ]
          refine' wpAnyZ_takeA (i := 5) (v := ?_) (opAt rfl) (by kernel_rfl) (by kernel_rfl) (by kernel_rfl) (by kernel_rfl) (fun _ _ _ h => h) (by assumption) (by rfl) (fun w hSw => ?_) ?_
          rotate_left
          · (try dsimp only at hSw); go_simp; (try with_reducible rfl)
          try simp only [Act.put, List.setIfInBounds_toArray, List.set_cons_zero, List.set_cons_succ]
          refine' wpAnyZ_takeA (i := 6) (v := ?_) (opAt rfl) (by kernel_rfl) (by kernel_rfl) (by kernel_rfl) (by kernel_rfl) (fun _ _ _ h => h) (by assumption) (by rfl) (fun w hSw => ?_) ?_
          rotate_left
          · (try dsimp only at hSw); go_simp; (try with_reducible rfl)
          try simp only [Act.put, List.setIfInBounds_toArray, List.set_cons_zero, List.set_cons_succ]
          refine' wpAnyZ_takeA (i := 7) (v := ?_) (opAt rfl) (by kernel_rfl) (by kernel_rfl) (by kernel_rfl) (by kernel_rfl) (fun _ _ _ h => h) (by assumption) (by rfl) (fun w hSw => ?_) ?_
          rotate_left
          · (try dsimp only at hSw); go_simp; (try with_reducible rfl)
          try simp only [Act.put, List.setIfInBounds_toArray, List.set_cons_zero, List.set_cons_succ]
          refine' wpAnyZ_takeA (i := 8) (v := ?_) (opAt rfl) (by kernel_rfl) (by kernel_rfl) (by kernel_rfl) (by kernel_rfl) (fun _ _ _ h => h) (by assumption) (by rfl) (fun w hSw => ?_) ?_
          rotate_left
          · (try dsimp only at hSw); go_simp; (try with_reducible rfl)
          try simp only [Act.put, List.setIfInBounds_toArray, List.set_cons_zero, List.set_cons_succ]
          refine' wpAnyZ_takeA (i := 9) (v := ?_) (opAt rfl) (by kernel_rfl) (by kernel_rfl) (by kernel_rfl) (by kernel_rfl) (fun _ _ _ h => h) (by assumption) (by rfl) (fun w hSw => ?_) ?_
          rotate_left
          · (try dsimp only at hSw); go_simp; (try with_reducible rfl)
          try simp only [Act.put, List.setIfInBounds_toArray, List.set_cons_zero, List.set_cons_succ]
          refine' wpAnyZ_takeA (i := 10) (v := ?_) (opAt rfl) (by kernel_rfl) (by kernel_rfl) (by kernel_rfl) (by kernel_rfl) (fun _ _ _ h => h) (by assumption) (by rfl) (fun w hSw => ?_) ?_
          rotate_left
          · (try dsimp only at hSw); go_simp; (try with_reducible rfl)
          try simp only [Act.put, List.setIfInBounds_toArray, List.set_cons_zero, List.set_cons_succ]
          refine wpAnyZ_ready (rs := [11]) (by kernel_rfl) (by simp) ?_
          refine AllReadyZ.cons (opAt rfl) (fun K hK => ?_) ?_
          · skip
            go_simp
            refine (Dn.out _).mono ?_
            rintro e wd ⟨rfl, hb1⟩
            replace bx := bx.below hb1 bx.lt
            replace bs := bs.below hb1 bs.lt
            replace bb := bb.below hb1 bb.lt
            replace hrow := own_below hrow hb1
            replace orow := own_below orow hb1
            replace hDK := (hb1.block D hDL).trans hDK
            replace hDL := Nat.lt_of_lt_of_le hDL hb1.size
            replace B0 := B0.trans (hb1.mono B0.size)
            clear hb1
            try go_wp2_with fail
            refine hK.out _ _ (by exact ⟨bs.cell 0, bx.cell 0, bx.cell 1, bx.cell 2, bx.cell 3, bx.cell 4, bx.cell 5, bx.cell 6, bx.cell 7, XC.out _ hrow, YC.out _ orow⟩) (fun hHeld => ?_)
            clear hK K
            try simp only [Act.put, List.setIfInBounds_toArray, List.set_cons_zero, List.set_cons_succ]
            refine' wpAnyZ_takeA (i := 12) (v := ?_) (opAt rfl) (by kernel_rfl) (by kernel_rfl) (by kernel_rfl) (by kernel_rfl) (fun _ _ _ h => h) (by assumption) (by rfl) (fun w hSw => ?_) ?_
            rotate_left
            · (try dsimp only at hSw); go_simp; (try with_reducible rfl)
            try simp only [Act.put, List.setIfInBounds_toArray, List.set_cons_zero, List.set_cons_succ]
            refine' wpAnyZ_takeA (i := 13) (v := ?_) (opAt rfl) (by kernel_rfl) (by kernel_rfl) (by kernel_rfl) (by kernel_rfl) (fun _ _ _ h => h) (by assumption) (by rfl) (fun w hSw => ?_) ?_
            rotate_left
            · (try dsimp only at hSw); go_simp; (try with_reducible rfl)
            try simp only [Act.put, List.setIfInBounds_toArray, List.set_cons_zero, List.set_cons_succ]
            refine' wpAnyZ_takeA (i := 14) (v := ?_) (opAt rfl) (by kernel_rfl) (by kernel_rfl) (by kernel_rfl) (by kernel_rfl) (fun _ _ _ h => h) (by assumption) (by rfl) (fun w hSw => ?_) ?_
            rotate_left
            · (try dsimp only at hSw); go_simp; (try with_reducible rfl)
            try simp only [Act.put, List.setIfInBounds_toArray, List.set_cons_zero, List.set_cons_succ]
            refine' wpAnyZ_takeA (i := 16) (v := ?_) (opAt rfl) (by kernel_rfl) (by kernel_rfl) (by kernel_rfl) (by kernel_rfl) (fun _ _ _ h => h) (by assumption) (by rfl) (fun w hSw => ?_) ?_
            rotate_left
            · (try dsimp only at hSw); go_simp; (try with_reducible rfl)
            try simp only [Act.put, List.setIfInBounds_toArray, List.set_cons_zero, List.set_cons_succ]
            refine' wpAnyZ_takeA (i := 17) (v := ?_) (opAt rfl) (by kernel_rfl) (by kernel_rfl) (by kernel_rfl) (by kernel_rfl) (fun _ _ _ h => h) (by assumption) (by rfl) (fun w hSw => ?_) ?_
            rotate_left
            · (try dsimp only at hSw); go_simp; (try with_reducible rfl)
            try simp only [Act.put, List.setIfInBounds_toArray, List.set_cons_zero, List.set_cons_succ]
            refine' wpAnyZ_takeA (i := 18) (v := ?_) (opAt rfl) (by kernel_rfl) (by kernel_rfl) (by kernel_rfl) (by kernel_rfl) (fun _ _ _ h => h) (by assumption) (by rfl) (fun w hSw => ?_) ?_
            rotate_left
            · (try dsimp only at hSw); go_simp; (try with_reducible rfl)
            try simp only [Act.put, List.setIfInBounds_toArray, List.set_cons_zero, List.set_cons_succ]
            refine' wpAnyZ_takeA (i := 19) (v := ?_) (opAt rfl) (by kernel_rfl) (by kernel_rfl) (by kernel_rfl) (by kernel_rfl) (fun _ _ _ h => h) (by assumption) (by rfl) (fun w hSw => ?_) ?_
            rotate_left
            · (try dsimp only at hSw); go_simp; (try with_reducible rfl)
            try simp only [Act.put, List.setIfInBounds_toArray, List.set_cons_zero, List.set_cons_succ]
            refine wpAnyZ_ready (rs := [15]) (by kernel_rfl) (by simp) ?_
            refine AllReadyZ.cons (opAt rfl) (fun K hK => ?_) ?_
            · skip
              go_simp
              refine (Wt.out _).mono ?_
              rintro e wv ⟨rfl, hb1⟩
              replace bx := bx.below hb1 bx.lt
              replace bs := bs.below hb1 bs.lt
              replace bb := bb.below hb1 bb.lt
              replace hrow := own_below hrow hb1
              replace orow := own_below orow hb1
              replace hDK := (hb1.block D hDL).trans hDK
              replace hDL := Nat.lt_of_lt_of_le hDL hb1.size
              replace B0 := B0.trans (hb1.mono B0.size)
              clear hb1
              try go_wp2_with fail
              refine hK.out _ _ (by exact ⟨bs.cell 0, bx.cell 0, bx.cell 1, bx.cell 2, bx.cell 3, bx.cell 4, bx.cell 5, bx.cell 6, bx.cell 7, XC.out _ hrow, YC.out _ orow⟩) (fun hHeld => ?_)
              clear hK K
              try simp only [Act.put, List.setIfInBounds_toArray, List.set_cons_zero, List.set_cons_succ]
              refine' wpAnyZ_takeA (i := 20) (v := ?_) (opAt rfl) (by kernel_rfl) (by kernel_rfl) (by kernel_rfl) (by kernel_rfl) (fun _ _ _ h => h) (by assumption) (by rfl) (fun w hSw => ?_) ?_
              rotate_left
              · (try dsimp only at hSw); go_simp; (try with_reducible rfl)
              try simp only [Act.put, List.setIfInBounds_toArray, List.set_cons_zero, List.set_cons_succ]
              refine' wpAnyZ_takeA (i := 21) (v := ?_) (opAt rfl) (by kernel_rfl) (by kernel_rfl) (by kernel_rfl) (by kernel_rfl) (fun _ _ _ h => h) (by assumption) (by rfl) (fun w hSw => ?_) ?_
              rotate_left
              · (try dsimp only at hSw); go_simp; (try with_reducible rfl)
              try simp only [Act.put, List.setIfInBounds_toArray, List.set_cons_zero, List.set_cons_succ]
              refine wpAnyZ_done (by kernel_rfl) ?_ _
              refine onlyN_normal ?_
              have mx := fun i => bx.cell i
              have fx := fun i => bx.frozen i
              go_wp2_with fail
              refine (Tk.out _ _).mono ?_
              rintro e wt ⟨rfl, hb1⟩
              clear mx fx
              replace bx := bx.below hb1 bx.lt
              replace bs := bs.below hb1 bs.lt
              replace bb := bb.below hb1 bb.lt
              replace hrow := own_below hrow hb1
              replace orow := own_below orow hb1
              replace hDK := (hb1.block D hDL).trans hDK
              replace hDL := Nat.lt_of_lt_of_le hDL hb1.size
              replace B0 := B0.trans (hb1.mono B0.size)
              clear hb1
              have mx := fun i => bx.cell i
              have fx := fun i => bx.frozen i
              go_wp2_with fail
              have hs9 := bs.off8 (bs.ne_ bx (by decide)) (.int .i64 s2) (.int .i64 t2) (.int .i64 f2) (.int .i64 l2) (.int .i64 p2) (.int .i64 th2) (.int .i64 j1) (.int .i64 mo)
              have hb9 := bb.off8 (bb.ne_ bx (by decide)) (.int .i64 s2) (.int .i64 t2) (.int .i64 f2) (.int .i64 l2) (.int .i64 p2) (.int .i64 th2) (.int .i64 j1) (.int .i64 mo)
              have hr9 := own_put8 hrow bx (by decide) (.int .i64 s2) (.int .i64 t2) (.int .i64 f2) (.int .i64 l2) (.int .i64 p2) (.int .i64 th2) (.int .i64 j1) (.int .i64 mo)
              have ho9 := own_put8 orow bx (by decide) (.int .i64 s2) (.int .i64 t2) (.int .i64 f2) (.int .i64 l2) (.int .i64 p2) (.int .i64 th2) (.int .i64 j1) (.int .i64 mo)
              have hB9 := below_put8 B0 (g := gx) HGX.out (.int .i64 s2) (.int .i64 t2) (.int .i64 f2) (.int .i64 l2) (.int .i64 p2) (.int .i64 th2) (.int .i64 j1) (.int .i64 mo)
              have hx9 := bx.put8 (.int .i64 s2) (.int .i64 t2) (.int .i64 f2) (.int .i64 l2) (.int .i64 p2) (.int .i64 th2) (.int .i64 j1) (.int .i64 mo)
              have hd9 := deferred_put8 hDK (g := gx) (by intro e; rw [e] at hDK; rw [show _ = some (Obj.cells _ _ _) from bx] at hDK; cases hDK) (.int .i64 s2) (.int .i64 t2) (.int .i64 f2) (.int .i64 l2) (.int .i64 p2) (.int .i64 th2) (.int .i64 j1) (.int .i64 mo)
              go_roundw
              case measure => simp [intOf]; omega
              case rel => exact ⟨k + 1, by go_num, by omega, by rw [← Hj1.out]; exact hx9, hs9, hb9, hr9, ho9, hB9, hd9⟩
            exact AllReadyZ.nil
          exact AllReadyZ.nil
      · have hkm : k = mo := by omega
        subst hkm
        have e0 : ((k - k : Nat) : Int) = 0 := by omega
        rw [e0] at bx
        have Dn := hide (HL.out.done 0)
        rw [show decide (0 = 0) = true from rfl] at Dn
        clear e0 HL
        clear hr hrow orow bs
        have hq0 := ask_eql 0 0 0 0
        have hq1 := lv_eql s2 t2 f2 l2 p2 th2 0 k
        go_wp2_with fail
        refine wpIn_wide.2 ?_
        go_wp2_with fail
        refine wp_onlyN ?_
        refine wp_region_heldZ [17] (fun w' => w'.cell? ⟨gx, 0, none⟩ = some (.int .i64 s2) ∧ w'.cell? ⟨gx, 1, none⟩ = some (.int .i64 t2) ∧ w'.cell? ⟨gx, 2, none⟩ = some (.int .i64 f2) ∧ w'.cell? ⟨gx, 3, none⟩ = some (.int .i64 l2) ∧ w'.cell? ⟨gx, 4, none⟩ = some (.int .i64 p2) ∧ w'.cell? ⟨gx, 5, none⟩ = some (.int .i64 th2) ∧ w'.cell? ⟨gx, 6, none⟩ = some (.int .i64 0) ∧ w'.cell? ⟨gx, 7, none⟩ = some (.int .i64 k)) (by kernel_rfl) (by exact ⟨bx.cell 0, bx.cell 1, bx.cell 2, bx.cell 3, bx.cell 4, bx.cell 5, bx.cell 6, bx.cell 7⟩) (fun hHeld => ?_)
        replace bx := bx.drew
        replace bb := bb.drew
        replace hDK := (show wr.drew.heap[D]? = _ from hDK)
        replace hDL := (show D < wr.drew.heap.size from hDL)
        replace B0 := B0.drew
        generalize wr.drew = w0x at *
        refine' wpAnyZ_takeA (i := 0) (v := ?_) (opAt rfl) (by kernel_rfl) (by kernel_rfl) (by kernel_rfl) (by kernel_rfl) (fun _ _ _ h => h) (by assumption) (by rfl) (fun w hSw => ?_) ?_
        rotate_left
        · (try dsimp only at hSw); go_simp; (try with_reducible rfl)
        try simp only [Act.put, List.setIfInBounds_toArray, List.set_cons_zero, List.set_cons_succ]
        refine wpAnyZ_ready (rs := [1]) (by kernel_rfl) (by simp) ?_
        refine AllReadyZ.cons (opAt rfl) (fun K hK => ?_) ?_
        · skip
          go_simp
          refine (Dn.out _).mono ?_
          rintro e wd ⟨rfl, hb1⟩
          replace bx := bx.below hb1 bx.lt
          replace bb := bb.below hb1 bb.lt
          replace hDK := (hb1.block D hDL).trans hDK
          replace hDL := Nat.lt_of_lt_of_le hDL hb1.size
          replace B0 := B0.trans (hb1.mono B0.size)
          clear hb1
          try go_wp2_with fail
          refine hK.out _ _ (by exact ⟨bx.cell 0, bx.cell 1, bx.cell 2, bx.cell 3, bx.cell 4, bx.cell 5, bx.cell 6, bx.cell 7⟩) (fun hHeld => ?_)
          clear hK K
          try simp only [Act.put, List.setIfInBounds_toArray, List.set_cons_zero, List.set_cons_succ]
          refine' wpAnyZ_takeA (i := 2) (v := ?_) (opAt rfl) (by kernel_rfl) (by kernel_rfl) (by kernel_rfl) (by kernel_rfl) (fun _ _ _ h => h) (by assumption) (by rfl) (fun w hSw => ?_) ?_
          rotate_left
          · (try dsimp only at hSw); go_simp; (try with_reducible rfl)
          try simp only [Act.put, List.setIfInBounds_toArray, List.set_cons_zero, List.set_cons_succ]
          refine' wpAnyZ_takeA (i := 3) (v := ?_) (opAt rfl) (by kernel_rfl) (by kernel_rfl) (by kernel_rfl) (by kernel_rfl) (fun _ _ _ h => h) (by assumption) (by rfl) (fun w hSw => ?_) ?_
          rotate_left
          · (try dsimp only at hSw); go_simp; (try with_reducible rfl)
          try simp only [Act.put, List.setIfInBounds_toArray, List.set_cons_zero, List.set_cons_succ]
          refine' wpAnyZ_takeA (i := 5) (v := ?_) (opAt rfl) (by kernel_rfl) (by kernel_rfl) (by kernel_rfl) (by kernel_rfl) (fun _ _ _ h => h) (by assumption) (by rfl) (fun w hSw => ?_) ?_
          rotate_left
          · (try dsimp only at hSw); go_simp; (try with_reducible rfl)
          try simp only [Act.put, List.setIfInBounds_toArray, List.set_cons_zero, List.set_cons_succ]
          refine wpAnyZ_ready (rs := [4]) (by kernel_rfl) (by simp) ?_
          refine AllReadyZ.cons (opAt rfl) (fun K hK => ?_) ?_
          · skip
            go_simp
            refine (HW0.out _).mono ?_
            rintro e wv ⟨rfl, hb1⟩
            replace bx := bx.below hb1 bx.lt
            replace bb := bb.below hb1 bb.lt
            replace hDK := (hb1.block D hDL).trans hDK
            replace hDL := Nat.lt_of_lt_of_le hDL hb1.size
            replace B0 := B0.trans (hb1.mono B0.size)
            clear hb1
            try go_wp2_with fail
            refine hK.out _ _ (by exact ⟨bx.cell 0, bx.cell 1, bx.cell 2, bx.cell 3, bx.cell 4, bx.cell 5, bx.cell 6, bx.cell 7⟩) (fun hHeld => ?_)
            clear hK K
            try simp only [Act.put, List.setIfInBounds_toArray, List.set_cons_zero, List.set_cons_succ]
            refine' wpAnyZ_takeA (i := 6) (v := ?_) (opAt rfl) (by kernel_rfl) (by kernel_rfl) (by kernel_rfl) (by kernel_rfl) (fun _ _ _ h => h) (by assumption) (by rfl) (fun w hSw => ?_) ?_
            rotate_left
            · (try dsimp only at hSw); go_simp; (try with_reducible rfl)
            try simp only [Act.put, List.setIfInBounds_toArray, List.set_cons_zero, List.set_cons_succ]
            refine' wpAnyZ_takeA (i := 7) (v := ?_) (opAt rfl) (by kernel_rfl) (by kernel_rfl) (by kernel_rfl) (by kernel_rfl) (fun _ _ _ h => h) (by assumption) (by rfl) (fun w hSw => ?_) ?_
            rotate_left
            · (try dsimp only at hSw); go_simp; (try with_reducible rfl)
            try simp only [Act.put, List.setIfInBounds_toArray, List.set_cons_zero, List.set_cons_succ]
            refine' wpAnyZ_takeA (i := 8) (v := ?_) (opAt rfl) (by kernel_rfl) (by kernel_rfl) (by kernel_rfl) (by kernel_rfl) (fun _ _ _ h => h) (by assumption) (by rfl) (fun w hSw => ?_) ?_
            rotate_left
            · (try dsimp only at hSw); go_simp; (try with_reducible rfl)
            try simp only [Act.put, List.setIfInBounds_toArray, List.set_cons_zero, List.set_cons_succ]
            refine' wpAnyZ_takeA (i := 9) (v := ?_) (opAt rfl) (by kernel_rfl) (by kernel_rfl) (by kernel_rfl) (by kernel_rfl) (fun _ _ _ h => h) (by assumption) (by rfl) (fun w hSw => ?_) ?_
            rotate_left
            · (try dsimp only at hSw); go_simp; (try with_reducible rfl)
            try simp only [Act.put, List.setIfInBounds_toArray, List.set_cons_zero, List.set_cons_succ]
            refine' wpAnyZ_takeA (i := 11) (v := ?_) (opAt rfl) (by kernel_rfl) (by kernel_rfl) (by kernel_rfl) (by kernel_rfl) (fun _ _ _ h => h) (by assumption) (by rfl) (fun w hSw => ?_) ?_
            rotate_left
            · (try dsimp only at hSw); go_simp; (try with_reducible rfl)
            try simp only [Act.put, List.setIfInBounds_toArray, List.set_cons_zero, List.set_cons_succ]
            refine wpAnyZ_ready (rs := [10]) (by kernel_rfl) (by simp) ?_
            refine AllReadyZ.cons (opAt rfl) (fun K hK => ?_) ?_
            · skip
              go_simp
              refine (HT0.out _ _).mono ?_
              rintro e wt ⟨rfl, hb1⟩
              replace bx := bx.below hb1 bx.lt
              replace bb := bb.below hb1 bb.lt
              replace hDK := (hb1.block D hDL).trans hDK
              replace hDL := Nat.lt_of_lt_of_le hDL hb1.size
              replace B0 := B0.trans (hb1.mono B0.size)
              clear hb1
              try go_wp2_with fail
              refine hK.out _ _ (by exact ⟨bx.cell 0, bx.cell 1, bx.cell 2, bx.cell 3, bx.cell 4, bx.cell 5, bx.cell 6, bx.cell 7⟩) (fun hHeld => ?_)
              clear hK K
              try simp only [Act.put, List.setIfInBounds_toArray, List.set_cons_zero, List.set_cons_succ]
              refine' wpAnyZ_takeA (i := 12) (v := ?_) (opAt rfl) (by kernel_rfl) (by kernel_rfl) (by kernel_rfl) (by kernel_rfl) (fun _ _ _ h => h) (by assumption) (by rfl) (fun w hSw => ?_) ?_
              rotate_left
              · (try dsimp only at hSw); go_simp; (try with_reducible rfl)
              try simp only [Act.put, List.setIfInBounds_toArray, List.set_cons_zero, List.set_cons_succ]
              refine' wpAnyZ_takeA (i := 13) (v := ?_) (opAt rfl) (by kernel_rfl) (by kernel_rfl) (by kernel_rfl) (by kernel_rfl) (fun _ _ _ h => h) (by assumption) (by rfl) (fun w hSw => ?_) ?_
              rotate_left
              · (try dsimp only at hSw); go_simp; (try with_reducible rfl)
              try simp only [Act.put, List.setIfInBounds_toArray, List.set_cons_zero, List.set_cons_succ]
              refine' wpAnyZ_takeA (i := 14) (v := ?_) (opAt rfl) (by kernel_rfl) (by kernel_rfl) (by kernel_rfl) (by kernel_rfl) (fun _ _ _ h => h) (by assumption) (by rfl) (fun w hSw => ?_) ?_
              rotate_left
              · (try dsimp only at hSw); go_simp; (try with_reducible rfl)
              try simp only [Act.put, List.setIfInBounds_toArray, List.set_cons_zero, List.set_cons_succ]
              refine wpAnyZ_ready (rs := [15]) (by kernel_rfl) (by simp) ?_
              refine AllReadyZ.cons (opAt rfl) (fun K hK => ?_) ?_
              · skip
                go_simp
                refine (awake17 _ (HT.out.below B0)).mono ?_
                rintro e wk ⟨rfl, hb1⟩
                replace bx := bx.below hb1 bx.lt
                replace bb := bb.below hb1 bb.lt
                replace hDK := (hb1.block D hDL).trans hDK
                replace hDL := Nat.lt_of_lt_of_le hDL hb1.size
                replace B0 := B0.trans (hb1.mono B0.size)
                clear hb1
                try go_wp2_with fail
                refine hK.out _ _ (by exact ⟨bx.cell 0, bx.cell 1, bx.cell 2, bx.cell 3, bx.cell 4, bx.cell 5, bx.cell 6, bx.cell 7⟩) (fun hHeld => ?_)
                clear hK K
                try simp only [Act.put, List.setIfInBounds_toArray, List.set_cons_zero, List.set_cons_succ]
                refine' wpAnyZ_takeA (i := 16) (v := ?_) (opAt rfl) (by kernel_rfl) (by kernel_rfl) (by kernel_rfl) (by kernel_rfl) (fun _ _ _ h => h) (by assumption) (by rfl) (fun w hSw => ?_) ?_
                rotate_left
                · (try dsimp only at hSw); go_simp; (try with_reducible rfl)
                try simp only [Act.put, List.setIfInBounds_toArray, List.set_cons_zero, List.set_cons_succ]
                refine wpAnyZ_ready (rs := [17]) (by kernel_rfl) (by simp) ?_
                refine AllReadyZ.last (opAt rfl) (by kernel_rfl) (fun K hK => ?_) ?_
                · skip
                  have zo := fun i => bb.frozen i
                  have mo_ := fun i => bb.cell i
                  go_simp
                  refine hK.out _ _ ?_
                  clear hK K
                  try simp only [Act.put, List.setIfInBounds_toArray, List.set_cons_zero, List.set_cons_succ]
                  refine wpAnyZ_done (by kernel_rfl) ?_ _
                  refine onlyN_normal ?_
                  go_wp2_with fail
                  have hK' := (KeepsOthers.setCell wk ⟨w.heap.size + 1, 0, none⟩ (.bool true)).same D _ hDK rfl
                  have hbc := bb.cell 0
                  refine ⟨by simp, .inl ⟨_, _, rfl, run_takeDeferred hK', ?_⟩⟩
                  have hc5 := cell_kept (World.cell?_setCell_same' wk ⟨w.heap.size + 1, 0, none⟩ (.bool true) (by rw [hbc]; rfl)) (grownBy_putObj' _ D (.deferred none)) (fun r e => by cases e; exact ⟨_, hK', rfl⟩)
                  refine ⟨.bool true, ?_, rfl, (B0.setCell (p := ⟨w.heap.size + 1, 0, none⟩) (Nat.le_succ _) _).trans (belowK_b (w := w) (Nat.le_refl _) _ D _ _ HDW.out hK' rfl rfl)⟩
                  simp [results, Tryd.results6, go_sem, hc5]
                exact AllReadyZ.nil
              exact AllReadyZ.nil
            exact AllReadyZ.nil
          exact AllReadyZ.nil
        exact AllReadyZ.nil
end Go.Proofs.YthmkhcmgpkngmaaDoor
