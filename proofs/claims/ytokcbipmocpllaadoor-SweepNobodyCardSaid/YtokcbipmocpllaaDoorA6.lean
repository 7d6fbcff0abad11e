/-
  Package sweep: Took where hazards are asked for.
-/
import Derived.Test.YtokcbipmocpllaaDoorA5
namespace Go.Proofs.YtokcbipmocpllaaDoor
open Go.RowKit

theorem exec_load_mid {P : Program} {op : Oper} {a : Act} {w : World} (ty : TypeId) (x : Operand) (ho : op.op = .load ty x)
    (b o : Nat) (hx : a.eval x = .pointer (some ⟨b, o, none⟩)) (cs : List Value) (d : TypeDesc) (hc : w.rangeAt b o cs)
    (hu : P.underlying ty = some d) (hd : d.isRow = true) (hi : (P.info? ty).map (·.size) = some cs.length) : (execOp a.eval op).run P w = .ok (.value (.agg cs.toArray)) w := by
  unfold execOp
  simp only [ho, hx, Instr.loadAt, Instr.sureAddr, Sem.run_bind, Sem.run_pure, Result.andThen_ok, run_loadVar_mid w b o ty cs d hc hu hd hi]
set_option linter.unusedSimpArgs false in
set_option maxRecDepth 100000 in
set_option maxHeartbeats 4000000 in
theorem smany_any (v0 v1 v7 v8 v9 v10 v11 v12 v13 v14 v15 v16 v17 v18 v19 v20 v21 : Value) (s t f l p : Int) (w : World) (ht : 1 ≤ t ∧ t ≤ 64) :
    Calls Tryd.prog 46 #[.agg #[v0, v1, .int .i64 s, .int .i64 t, .int .i64 f, .int .i64 l, .int .i64 p, v7, v8, v9, v10, v11, v12, v13, v14, v15, v16, v17, v18, v19, v20, v21]] w fun e w' => e = .returned (.int .i64 (2 * t)) ∧ Below w.heap.size w w' := by
  have CFG := hide (fun w2 => lconfig_any s t f l p w2)
  have hw : IntKind.i64.wrap (2 * t) = 2 * t := by rw [IntWalk.i64_in _ (by omega)]
  have B0 := ((Below.refl w.heap.size w).alloc (Nat.le_refl _) (.cells #[v0, v1, .int .i64 s, .int .i64 t, .int .i64 f, .int .i64 l, .int .i64 p, v7, v8, v9, v10, v11, v12, v13, v14, v15, v16, v17, v18, v19, v20, v21] 51))
  go_enter Tryd.func46, Tryd.ntmps46
  go_wp2_with fail
  refine (CFG.out _).mono ?_
  rintro e w1 ⟨rfl, hb⟩
  have hf0 : ∀ w, (Instr.field 36 (.agg #[.int .i64 s, .int .i64 t, .int .i64 f, .int .i64 l, .int .i64 p]) 1).run Tryd.prog w = .ok (.int .i64 t) w := fun _ => by kernel_rfl
  go_wp2_with fail
  go_ret
  exact ⟨rfl, B0.trans (hb.mono B0.size)⟩
set_option linter.unusedSimpArgs false in
set_option maxRecDepth 100000 in
set_option maxHeartbeats 4000000 in
theorem sdone_any (v0 v1 v2 v3 v4 v5 v6 v8 v9 v10 v11 v12 v13 v14 v15 v16 v17 v18 v19 v20 v21 : Value) (k : Int) (w : World) :
    Calls Tryd.prog 19 #[.agg #[v0, v1, v2, v3, v4, v5, v6, .int .i64 k, v8, v9, v10, v11, v12, v13, v14, v15, v16, v17, v18, v19, v20, v21]] w fun e w' => e = .returned (.bool (k == 0)) ∧ Below w.heap.size w w' := by
  have B0 := ((Below.refl w.heap.size w).alloc (Nat.le_refl _) (.cells #[v0, v1, v2, v3, v4, v5, v6, .int .i64 k, v8, v9, v10, v11, v12, v13, v14, v15, v16, v17, v18, v19, v20, v21] 51))
  go_enter Tryd.func19, Tryd.ntmps19
  go_wp2_with fail
  go_ret
  exact ⟨rfl, B0⟩
set_option linter.unusedSimpArgs false in
set_option maxRecDepth 100000 in
set_option maxHeartbeats 4000000 in
theorem stook_2n (s t f l p ep : Int) (r : List (Int × Int)) (ks hz : List Int) (td : List (Int × Bool)) (q0 q1 q2 q3 q4 pk sl hd tr : Int) (fr : List Int) (ju : Int) (g : Int) (v : Value) (w : World) (hv : SwV w s t f l p 2 ep r ks hz td q0 q1 q2 q3 q4 pk sl hd tr fr ju v) (h3 : hz.length ≤ 900) (ht : 1 ≤ t ∧ t ≤ 64)  (hq : ¬ (hz.length : Int) + 1 = 2 * t)
    : Calls Tryd.prog 20 #[v, .int .u64 g] w fun e w' => (∃ v', e = .returned v' ∧ SwV w' s t f l p 2 ep r ks (hz ++ [g]) td q0 q1 q2 q3 q4 pk sl hd tr fr 0 v') ∧ Below w.heap.size w w' := by
  obtain ⟨A1, c1, A2, c2, A3, c3, A4, c4, A5, c5, rfl, t1, t2, t3, t4, t5⟩ := hv
  obtain ⟨i0, hi0, hz0, hs0, hb0⟩ := info_parts infoU64
  have H3 := hide h3
  have MN := hide (fun (MNH : Value) w2 => smany_any (.slice A1 r.length c1) (.slice A2 ks.length c2) (.int .i64 2) (.int .u64 ep) MNH (.slice A4 td.length c4) (.int .i64 q0) (.int .i64 q1) (.int .i64 q2) (.int .i64 q3) (.int .i64 q4) (.int .i64 pk) (.int .i64 sl) (.int .u64 hd) (.int .i64 tr) (.slice A5 fr.length c5) (.int .i64 0) s t f l p w2 ht) 
  clear h3 ht
  have B0 := ((Below.refl w.heap.size w).alloc (Nat.le_refl _) (.cells #[.slice A1 r.length c1, .slice A2 ks.length c2, .int .i64 s, .int .i64 t, .int .i64 f, .int .i64 l, .int .i64 p, .int .i64 2, .int .u64 ep, .slice A3 hz.length c3, .slice A4 td.length c4, .int .i64 q0, .int .i64 q1, .int .i64 q2, .int .i64 q3, .int .i64 q4, .int .i64 pk, .int .i64 sl, .int .u64 hd, .int .i64 tr, .slice A5 fr.length c5, .int .i64 0] 51)).alloc (by simp only [World.size_alloc]; omega) (.cells #[.slice none 0 0, .slice none 0 0, .int .i64 0, .int .i64 0, .int .i64 0, .int .i64 0, .int .i64 0, .int .i64 0, .int .u64 0, .slice none 0 0, .slice none 0 0, .int .i64 0, .int .i64 0, .int .i64 0, .int .i64 0, .int .i64 0, .int .i64 0, .int .i64 0, .int .u64 0, .int .i64 0, .slice none 0 0, .int .i64 0] 51)
  have bs := (Blk.new w 51 #[.slice A1 r.length c1, .slice A2 ks.length c2, .int .i64 s, .int .i64 t, .int .i64 f, .int .i64 l, .int .i64 p, .int .i64 2, .int .u64 ep, .slice A3 hz.length c3, .slice A4 td.length c4, .int .i64 q0, .int .i64 q1, .int .i64 q2, .int .i64 q3, .int .i64 q4, .int .i64 pk, .int .i64 sl, .int .u64 hd, .int .i64 tr, .slice A5 fr.length c5, .int .i64 0]).alloc (.cells #[.slice none 0 0, .slice none 0 0, .int .i64 0, .int .i64 0, .int .i64 0, .int .i64 0, .int .i64 0, .int .i64 0, .int .u64 0, .slice none 0 0, .slice none 0 0, .int .i64 0, .int .i64 0, .int .i64 0, .int .i64 0, .int .i64 0, .int .i64 0, .int .i64 0, .int .u64 0, .int .i64 0, .slice none 0 0, .int .i64 0] 51)
  have bo := Blk.new (w.alloc (.cells #[.slice A1 r.length c1, .slice A2 ks.length c2, .int .i64 s, .int .i64 t, .int .i64 f, .int .i64 l, .int .i64 p, .int .i64 2, .int .u64 ep, .slice A3 hz.length c3, .slice A4 td.length c4, .int .i64 q0, .int .i64 q1, .int .i64 q2, .int .i64 q3, .int .i64 q4, .int .i64 pk, .int .i64 sl, .int .u64 hd, .int .i64 tr, .slice A5 fr.length c5, .int .i64 0] 51)) 51 #[.slice none 0 0, .slice none 0 0, .int .i64 0, .int .i64 0, .int .i64 0, .int .i64 0, .int .i64 0, .int .i64 0, .int .u64 0, .slice none 0 0, .slice none 0 0, .int .i64 0, .int .i64 0, .int .i64 0, .int .i64 0, .int .i64 0, .int .i64 0, .int .i64 0, .int .u64 0, .int .i64 0, .slice none 0 0, .int .i64 0]
  simp only [World.size_alloc] at bo
  replace t1 := (t1.alloc (.cells #[.slice A1 r.length c1, .slice A2 ks.length c2, .int .i64 s, .int .i64 t, .int .i64 f, .int .i64 l, .int .i64 p, .int .i64 2, .int .u64 ep, .slice A3 hz.length c3, .slice A4 td.length c4, .int .i64 q0, .int .i64 q1, .int .i64 q2, .int .i64 q3, .int .i64 q4, .int .i64 pk, .int .i64 sl, .int .u64 hd, .int .i64 tr, .slice A5 fr.length c5, .int .i64 0] 51)).alloc (.cells #[.slice none 0 0, .slice none 0 0, .int .i64 0, .int .i64 0, .int .i64 0, .int .i64 0, .int .i64 0, .int .i64 0, .int .u64 0, .slice none 0 0, .slice none 0 0, .int .i64 0, .int .i64 0, .int .i64 0, .int .i64 0, .int .i64 0, .int .i64 0, .int .i64 0, .int .u64 0, .int .i64 0, .slice none 0 0, .int .i64 0] 51)
  replace t2 := (t2.alloc (.cells #[.slice A1 r.length c1, .slice A2 ks.length c2, .int .i64 s, .int .i64 t, .int .i64 f, .int .i64 l, .int .i64 p, .int .i64 2, .int .u64 ep, .slice A3 hz.length c3, .slice A4 td.length c4, .int .i64 q0, .int .i64 q1, .int .i64 q2, .int .i64 q3, .int .i64 q4, .int .i64 pk, .int .i64 sl, .int .u64 hd, .int .i64 tr, .slice A5 fr.length c5, .int .i64 0] 51)).alloc (.cells #[.slice none 0 0, .slice none 0 0, .int .i64 0, .int .i64 0, .int .i64 0, .int .i64 0, .int .i64 0, .int .i64 0, .int .u64 0, .slice none 0 0, .slice none 0 0, .int .i64 0, .int .i64 0, .int .i64 0, .int .i64 0, .int .i64 0, .int .i64 0, .int .i64 0, .int .u64 0, .int .i64 0, .slice none 0 0, .int .i64 0] 51)
  replace t3 := (t3.alloc (.cells #[.slice A1 r.length c1, .slice A2 ks.length c2, .int .i64 s, .int .i64 t, .int .i64 f, .int .i64 l, .int .i64 p, .int .i64 2, .int .u64 ep, .slice A3 hz.length c3, .slice A4 td.length c4, .int .i64 q0, .int .i64 q1, .int .i64 q2, .int .i64 q3, .int .i64 q4, .int .i64 pk, .int .i64 sl, .int .u64 hd, .int .i64 tr, .slice A5 fr.length c5, .int .i64 0] 51)).alloc (.cells #[.slice none 0 0, .slice none 0 0, .int .i64 0, .int .i64 0, .int .i64 0, .int .i64 0, .int .i64 0, .int .i64 0, .int .u64 0, .slice none 0 0, .slice none 0 0, .int .i64 0, .int .i64 0, .int .i64 0, .int .i64 0, .int .i64 0, .int .i64 0, .int .i64 0, .int .u64 0, .int .i64 0, .slice none 0 0, .int .i64 0] 51)
  replace t4 := (t4.alloc (.cells #[.slice A1 r.length c1, .slice A2 ks.length c2, .int .i64 s, .int .i64 t, .int .i64 f, .int .i64 l, .int .i64 p, .int .i64 2, .int .u64 ep, .slice A3 hz.length c3, .slice A4 td.length c4, .int .i64 q0, .int .i64 q1, .int .i64 q2, .int .i64 q3, .int .i64 q4, .int .i64 pk, .int .i64 sl, .int .u64 hd, .int .i64 tr, .slice A5 fr.length c5, .int .i64 0] 51)).alloc (.cells #[.slice none 0 0, .slice none 0 0, .int .i64 0, .int .i64 0, .int .i64 0, .int .i64 0, .int .i64 0, .int .i64 0, .int .u64 0, .slice none 0 0, .slice none 0 0, .int .i64 0, .int .i64 0, .int .i64 0, .int .i64 0, .int .i64 0, .int .i64 0, .int .i64 0, .int .u64 0, .int .i64 0, .slice none 0 0, .int .i64 0] 51)
  replace t5 := (t5.alloc (.cells #[.slice A1 r.length c1, .slice A2 ks.length c2, .int .i64 s, .int .i64 t, .int .i64 f, .int .i64 l, .int .i64 p, .int .i64 2, .int .u64 ep, .slice A3 hz.length c3, .slice A4 td.length c4, .int .i64 q0, .int .i64 q1, .int .i64 q2, .int .i64 q3, .int .i64 q4, .int .i64 pk, .int .i64 sl, .int .u64 hd, .int .i64 tr, .slice A5 fr.length c5, .int .i64 0] 51)).alloc (.cells #[.slice none 0 0, .slice none 0 0, .int .i64 0, .int .i64 0, .int .i64 0, .int .i64 0, .int .i64 0, .int .i64 0, .int .u64 0, .slice none 0 0, .slice none 0 0, .int .i64 0, .int .i64 0, .int .i64 0, .int .i64 0, .int .i64 0, .int .i64 0, .int .i64 0, .int .u64 0, .int .i64 0, .slice none 0 0, .int .i64 0] 51)
  go_enter Tryd.func20, Tryd.ntmps20
  go_wp2_with fail
  generalize ((w.alloc (.cells #[.slice A1 r.length c1, .slice A2 ks.length c2, .int .i64 s, .int .i64 t, .int .i64 f, .int .i64 l, .int .i64 p, .int .i64 2, .int .u64 ep, .slice A3 hz.length c3, .slice A4 td.length c4, .int .i64 q0, .int .i64 q1, .int .i64 q2, .int .i64 q3, .int .i64 q4, .int .i64 pk, .int .i64 sl, .int .u64 hd, .int .i64 tr, .slice A5 fr.length c5, .int .i64 0] 51)).alloc (.cells #[.slice none 0 0, .slice none 0 0, .int .i64 0, .int .i64 0, .int .i64 0, .int .i64 0, .int .i64 0, .int .i64 0, .int .u64 0, .slice none 0 0, .slice none 0 0, .int .i64 0, .int .i64 0, .int .i64 0, .int .i64 0, .int .i64 0, .int .i64 0, .int .i64 0, .int .u64 0, .int .i64 0, .slice none 0 0, .int .i64 0] 51)) = w0 at *
  refine (clipu_any A3 hz.length c3 _ t3.cap.1 t3.cap.2.1).mono ?_
  rintro e w' ⟨rfl, rfl⟩
  have ms := fun i => bs.cell i
  go_wp2_with (at_builtin; refine wpList_append_grows _ rfl (.tmp 33) (.tmp 35) _ rfl 29 i0 _ 1 8 Tryd.underlying23 hi0 hz0 hs0 hb0 rfl (by decide) A3 hz.length hz.length (ints .u64 hz) rfl (fun h => ⟨(t3.cap.2.2 h).1, (t3.cap.2.2 h).1⟩) (by rw [ints_len, Nat.mul_one]) (t3.alloc (.cells #[.int .u64 g] 29)).holds ⟨w0.heap.size, 0, none⟩ 1 1 [.int .u64 g] rfl rfl (fun j u hj => by rw [Addr.add_lit]; have := (Blk.new w0 29 #[.int .u64 g]).cell j; simpa [this] using hj) (fun u hu => by simp only [List.mem_cons, List.not_mem_nil, or_false] at hu; subst hu; rfl) (by omega) (by unfold maxLen; have := H3.out; omega) (by have := H3.out; omega) ?_; intro v5 w4 o5 hg; replace t1 := (t1.alloc (.cells #[.int .u64 g] 29)).grown_none hg; replace t2 := (t2.alloc (.cells #[.int .u64 g] 29)).grown_none hg; replace t4 := (t4.alloc (.cells #[.int .u64 g] 29)).grown_none hg; replace t5 := (t5.alloc (.cells #[.int .u64 g] 29)).grown_none hg; replace bs := (bs.alloc (.cells #[.int .u64 g] 29)).grown hg (by simp); replace bo := (bo.alloc (.cells #[.int .u64 g] 29)).grown hg (by simp); replace B0 := (B0.alloc B0.size (.cells #[.int .u64 g] 29)).grown hg (by rw [World.size_alloc]; have := B0.size; omega) (fun _ h => by cases h); obtain ⟨m5, HM5⟩ : ∃ m, Hid (m = (hz ++ [g]).length) := ⟨_, hide rfl⟩; have t3 : Tr w4 29 1 v5 m5 (ints .u64 (hz ++ [g])) := (by rw [HM5.out, ints_append, List.length_append]; exact Tr.of_own o5); obtain ⟨A7, c7, rfl⟩ := t3.val; clear o5 hg ms; have ms := fun i => bs.cell i; have zs := fun i => bs.frozen i)
  replace t1 := t1.set_ bs (by decide) 9 (.slice A7 m5 c7)
  replace t2 := t2.set_ bs (by decide) 9 (.slice A7 m5 c7)
  replace t3 := t3.set_ bs (by decide) 9 (.slice A7 m5 c7)
  replace t4 := t4.set_ bs (by decide) 9 (.slice A7 m5 c7)
  replace t5 := t5.set_ bs (by decide) 9 (.slice A7 m5 c7)
  replace bo := bo.far (p := ⟨w.heap.size, 9, none⟩) (by show w.heap.size + 1 ≠ w.heap.size; omega) (.slice A7 m5 c7)
  replace B0 := B0.setCell (p := ⟨w.heap.size, 9, none⟩) (Nat.le_refl _) (.slice A7 m5 c7)
  replace bs := bs.set_ 9 (.slice A7 m5 c7)
  simp only [List.setIfInBounds_toArray, List.set_cons_zero, List.set_cons_succ] at bs
  clear ms zs
  generalize w4.setCell ⟨w.heap.size, 9, none⟩ (.slice A7 m5 c7) = w5 at *
  have hq2 : (m5 : Int) = (hz.length : Int) + 1 := by rw [HM5.out, List.length_append]; simp
  have hq3 : ((m5 : Int) == 2 * t) = false := by rw [beq_eq_false_iff_ne]; omega
  refine wp_region_heldZ [] (fun w' => w'.cell? ⟨w.heap.size, 9, none⟩ = some (.slice A7 m5 c7) ∧ w'.rangeAt w.heap.size 0 [.slice A1 r.length c1, .slice A2 ks.length c2, .int .i64 s, .int .i64 t, .int .i64 f, .int .i64 l, .int .i64 p, .int .i64 2, .int .u64 ep, .slice A7 m5 c7, .slice A4 td.length c4, .int .i64 q0, .int .i64 q1, .int .i64 q2, .int .i64 q3, .int .i64 q4, .int .i64 pk, .int .i64 sl, .int .u64 hd, .int .i64 tr, .slice A5 fr.length c5, .int .i64 0]) (by kernel_rfl) (by exact ⟨bs.cell 9, bs.range⟩) (fun hHeld => ?_)
  replace t1 := t1.drew
  replace t2 := t2.drew
  replace t3 := t3.drew
  replace t4 := t4.drew
  replace t5 := t5.drew
  replace bs := bs.drew
  replace bo := bo.drew
  replace B0 := B0.drew
  generalize w5.drew = wd at *
  refine' wpAnyZ_takeA (i := 0) (v := ?_) (opAt rfl) (by kernel_rfl) (by kernel_rfl) (by kernel_rfl) (by kernel_rfl) (fun _ _ _ h => h) (by assumption) (by rfl) (fun w hSw => ?_) ?_
  rotate_left
  · (try dsimp only at hSw); go_simp; (try with_reducible rfl)
  try simp only [Act.put, List.setIfInBounds_toArray, List.set_cons_zero, List.set_cons_succ]
  refine' wpAnyZ_takeA (i := 1) (v := ?_) (opAt rfl) (by kernel_rfl) (by kernel_rfl) (by kernel_rfl) (by kernel_rfl) (fun _ _ _ h => h) (by assumption) (by rfl) (fun w hSw => ?_) ?_
  rotate_left
  · (try dsimp only at hSw); go_simp; (try with_reducible rfl)
  try simp only [Act.put, List.setIfInBounds_toArray, List.set_cons_zero, List.set_cons_succ]
  refine' wpAnyZ_takeA (i := 2) (v := ?_) (opAt rfl) (by kernel_rfl) (by kernel_rfl) (by kernel_rfl) (by kernel_rfl) (fun _ _ _ h => h) (by assumption) (by rfl) (fun w hSw => ?_) ?_
  rotate_left
  · (try dsimp only at hSw); go_simp; (try with_reducible rfl)
  try simp only [Act.put, List.setIfInBounds_toArray, List.set_cons_zero, List.set_cons_succ]
  refine' wpAnyZ_takeA (i := 3) (v := .agg #[.slice A1 r.length c1, .slice A2 ks.length c2, .int .i64 s, .int .i64 t, .int .i64 f, .int .i64 l, .int .i64 p, .int .i64 2, .int .u64 ep, .slice A7 m5 c7, .slice A4 td.length c4, .int .i64 q0, .int .i64 q1, .int .i64 q2, .int .i64 q3, .int .i64 q4, .int .i64 pk, .int .i64 sl, .int .u64 hd, .int .i64 tr, .slice A5 fr.length c5, .int .i64 0]) (opAt rfl) (by kernel_rfl) (by kernel_rfl) (by kernel_rfl) (by kernel_rfl) (fun _ _ _ h => h) (by assumption) (by rfl) (fun w hSw => ?_) ?_
  · exact exec_load_mid 51 (.tmp 2) rfl _ 0 (by rfl) [.slice A1 r.length c1, .slice A2 ks.length c2, .int .i64 s, .int .i64 t, .int .i64 f, .int .i64 l, .int .i64 p, .int .i64 2, .int .u64 ep, .slice A7 m5 c7, .slice A4 td.length c4, .int .i64 q0, .int .i64 q1, .int .i64 q2, .int .i64 q3, .int .i64 q4, .int .i64 pk, .int .i64 sl, .int .u64 hd, .int .i64 tr, .slice A5 fr.length c5, .int .i64 0] _ hSw.2 Tryd.underlying51 rfl (by kernel_rfl)
  try simp only [Act.put, List.setIfInBounds_toArray, List.set_cons_zero, List.set_cons_succ]
  refine wpAnyZ_ready (rs := [4]) (by kernel_rfl) (by simp) ?_
  refine AllReadyZ.cons (opAt rfl) (fun K hK => ?_) ?_
  · skip
    go_simp
    refine (MN.out _ _).mono ?_
    rintro e w6 ⟨rfl, hb⟩
    replace t1 := t1.below (Nat.le_refl _) hb
    replace t2 := t2.below (Nat.le_refl _) hb
    replace t3 := t3.below (Nat.le_refl _) hb
    replace t4 := t4.below (Nat.le_refl _) hb
    replace t5 := t5.below (Nat.le_refl _) hb
    replace bs := bs.below hb bs.lt
    replace bo := bo.below hb bo.lt
    replace B0 := B0.trans (hb.mono B0.size)
    clear hb
    try go_wp2_with fail
    refine hK.out _ _ (by exact ⟨bs.cell 9, bs.range⟩) (fun hHeld => ?_)
    clear hK K
    try simp only [Act.put, List.setIfInBounds_toArray, List.set_cons_zero, List.set_cons_succ]
    refine' wpAnyZ_takeA (i := 5) (v := ?_) (opAt rfl) (by kernel_rfl) (by kernel_rfl) (by kernel_rfl) (by kernel_rfl) (fun _ _ _ h => h) (by assumption) (by rfl) (fun w hSw => ?_) ?_
    rotate_left
    · (try dsimp only at hSw); go_simp; (try with_reducible rfl)
    try simp only [Act.put, List.setIfInBounds_toArray, List.set_cons_zero, List.set_cons_succ]
    refine wpAnyZ_done (by kernel_rfl) ?_ _
    clear hHeld hq2
    go_wp2_with (first | (refine wpList_load_mid rfl 51 (.tmp 2) rfl w.heap.size 0 (by rfl) [.slice A1 r.length c1, .slice A2 ks.length c2, .int .i64 s, .int .i64 t, .int .i64 f, .int .i64 l, .int .i64 p, .int .i64 2, .int .u64 ep, .slice A7 m5 c7, .slice A4 td.length c4, .int .i64 q0, .int .i64 q1, .int .i64 q2, .int .i64 q3, .int .i64 q4, .int .i64 pk, .int .i64 sl, .int .u64 hd, .int .i64 tr, .slice A5 fr.length c5, .int .i64 0] _ bs.range Tryd.underlying51 rfl (by kernel_rfl) ?_) | (refine wpList_store_mid rfl 51 (.tmp 4) (.tmp 72) rfl (w.heap.size + 1) 0 #[.slice A1 r.length c1, .slice A2 ks.length c2, .int .i64 s, .int .i64 t, .int .i64 f, .int .i64 l, .int .i64 p, .int .i64 2, .int .u64 ep, .slice A7 m5 c7, .slice A4 td.length c4, .int .i64 q0, .int .i64 q1, .int .i64 q2, .int .i64 q3, .int .i64 q4, .int .i64 pk, .int .i64 sl, .int .u64 hd, .int .i64 tr, .slice A5 fr.length c5, .int .i64 0] (by rfl) (by rfl) (bo.there rfl) (by kernel_rfl) (by kernel_rfl) ?_))
    replace t1 := (show Tr (w6.setCells (w.heap.size + 1) 0 [.slice A1 r.length c1, .slice A2 ks.length c2, .int .i64 s, .int .i64 t, .int .i64 f, .int .i64 l, .int .i64 p, .int .i64 2, .int .u64 ep, .slice A7 m5 c7, .slice A4 td.length c4, .int .i64 q0, .int .i64 q1, .int .i64 q2, .int .i64 q3, .int .i64 q4, .int .i64 pk, .int .i64 sl, .int .u64 hd, .int .i64 tr, .slice A5 fr.length c5, .int .i64 0]) _ _ _ _ _ from by rw [putL_eq]; exact Tr.putL (by decide) _ 0 bo t1)
    replace t2 := (show Tr (w6.setCells (w.heap.size + 1) 0 [.slice A1 r.length c1, .slice A2 ks.length c2, .int .i64 s, .int .i64 t, .int .i64 f, .int .i64 l, .int .i64 p, .int .i64 2, .int .u64 ep, .slice A7 m5 c7, .slice A4 td.length c4, .int .i64 q0, .int .i64 q1, .int .i64 q2, .int .i64 q3, .int .i64 q4, .int .i64 pk, .int .i64 sl, .int .u64 hd, .int .i64 tr, .slice A5 fr.length c5, .int .i64 0]) _ _ _ _ _ from by rw [putL_eq]; exact Tr.putL (by decide) _ 0 bo t2)
    replace t3 := (show Tr (w6.setCells (w.heap.size + 1) 0 [.slice A1 r.length c1, .slice A2 ks.length c2, .int .i64 s, .int .i64 t, .int .i64 f, .int .i64 l, .int .i64 p, .int .i64 2, .int .u64 ep, .slice A7 m5 c7, .slice A4 td.length c4, .int .i64 q0, .int .i64 q1, .int .i64 q2, .int .i64 q3, .int .i64 q4, .int .i64 pk, .int .i64 sl, .int .u64 hd, .int .i64 tr, .slice A5 fr.length c5, .int .i64 0]) _ _ _ _ _ from by rw [putL_eq]; exact Tr.putL (by decide) _ 0 bo t3)
    replace t4 := (show Tr (w6.setCells (w.heap.size + 1) 0 [.slice A1 r.length c1, .slice A2 ks.length c2, .int .i64 s, .int .i64 t, .int .i64 f, .int .i64 l, .int .i64 p, .int .i64 2, .int .u64 ep, .slice A7 m5 c7, .slice A4 td.length c4, .int .i64 q0, .int .i64 q1, .int .i64 q2, .int .i64 q3, .int .i64 q4, .int .i64 pk, .int .i64 sl, .int .u64 hd, .int .i64 tr, .slice A5 fr.length c5, .int .i64 0]) _ _ _ _ _ from by rw [putL_eq]; exact Tr.putL (by decide) _ 0 bo t4)
    replace t5 := (show Tr (w6.setCells (w.heap.size + 1) 0 [.slice A1 r.length c1, .slice A2 ks.length c2, .int .i64 s, .int .i64 t, .int .i64 f, .int .i64 l, .int .i64 p, .int .i64 2, .int .u64 ep, .slice A7 m5 c7, .slice A4 td.length c4, .int .i64 q0, .int .i64 q1, .int .i64 q2, .int .i64 q3, .int .i64 q4, .int .i64 pk, .int .i64 sl, .int .u64 hd, .int .i64 tr, .slice A5 fr.length c5, .int .i64 0]) _ _ _ _ _ from by rw [putL_eq]; exact Tr.putL (by decide) _ 0 bo t5)
    replace B0 := (show Below w.heap.size w (w6.setCells (w.heap.size + 1) 0 [.slice A1 r.length c1, .slice A2 ks.length c2, .int .i64 s, .int .i64 t, .int .i64 f, .int .i64 l, .int .i64 p, .int .i64 2, .int .u64 ep, .slice A7 m5 c7, .slice A4 td.length c4, .int .i64 q0, .int .i64 q1, .int .i64 q2, .int .i64 q3, .int .i64 q4, .int .i64 pk, .int .i64 sl, .int .u64 hd, .int .i64 tr, .slice A5 fr.length c5, .int .i64 0]) from by rw [putL_eq]; exact Below.putL (by omega) _ _ 0 B0)
    replace bo := (show Blk (w6.setCells (w.heap.size + 1) 0 [.slice A1 r.length c1, .slice A2 ks.length c2, .int .i64 s, .int .i64 t, .int .i64 f, .int .i64 l, .int .i64 p, .int .i64 2, .int .u64 ep, .slice A7 m5 c7, .slice A4 td.length c4, .int .i64 q0, .int .i64 q1, .int .i64 q2, .int .i64 q3, .int .i64 q4, .int .i64 pk, .int .i64 sl, .int .u64 hd, .int .i64 tr, .slice A5 fr.length c5, .int .i64 0]) (w.heap.size + 1) 51 #[.slice A1 r.length c1, .slice A2 ks.length c2, .int .i64 s, .int .i64 t, .int .i64 f, .int .i64 l, .int .i64 p, .int .i64 2, .int .u64 ep, .slice A7 m5 c7, .slice A4 td.length c4, .int .i64 q0, .int .i64 q1, .int .i64 q2, .int .i64 q3, .int .i64 q4, .int .i64 pk, .int .i64 sl, .int .u64 hd, .int .i64 tr, .slice A5 fr.length c5, .int .i64 0] from by rw [putL_eq]; have h9 := Blk.putL [.slice A1 r.length c1, .slice A2 ks.length c2, .int .i64 s, .int .i64 t, .int .i64 f, .int .i64 l, .int .i64 p, .int .i64 2, .int .u64 ep, .slice A7 m5 c7, .slice A4 td.length c4, .int .i64 q0, .int .i64 q1, .int .i64 q2, .int .i64 q3, .int .i64 q4, .int .i64 pk, .int .i64 sl, .int .u64 hd, .int .i64 tr, .slice A5 fr.length c5, .int .i64 0] _ _ 0 bo; simpa only [setL, List.setIfInBounds_toArray, List.set_cons_zero, List.set_cons_succ] using h9)
    clear bs
    generalize w6.setCells (w.heap.size + 1) 0 [.slice A1 r.length c1, .slice A2 ks.length c2, .int .i64 s, .int .i64 t, .int .i64 f, .int .i64 l, .int .i64 p, .int .i64 2, .int .u64 ep, .slice A7 m5 c7, .slice A4 td.length c4, .int .i64 q0, .int .i64 q1, .int .i64 q2, .int .i64 q3, .int .i64 q4, .int .i64 pk, .int .i64 sl, .int .u64 hd, .int .i64 tr, .slice A5 fr.length c5, .int .i64 0] = w12 at *
    have hres : (loadVar 51 ⟨w.heap.size + 1, 0, none⟩).run Tryd.prog w12 = .ok (.agg #[.slice A1 r.length c1, .slice A2 ks.length c2, .int .i64 s, .int .i64 t, .int .i64 f, .int .i64 l, .int .i64 p, .int .i64 2, .int .u64 ep, .slice A7 m5 c7, .slice A4 td.length c4, .int .i64 q0, .int .i64 q1, .int .i64 q2, .int .i64 q3, .int .i64 q4, .int .i64 pk, .int .i64 sl, .int .u64 hd, .int .i64 tr, .slice A5 fr.length c5, .int .i64 0]) w12 := run_loadVar_mid w12 _ 0 _ [.slice A1 r.length c1, .slice A2 ks.length c2, .int .i64 s, .int .i64 t, .int .i64 f, .int .i64 l, .int .i64 p, .int .i64 2, .int .u64 ep, .slice A7 m5 c7, .slice A4 td.length c4, .int .i64 q0, .int .i64 q1, .int .i64 q2, .int .i64 q3, .int .i64 q4, .int .i64 pk, .int .i64 sl, .int .u64 hd, .int .i64 tr, .slice A5 fr.length c5, .int .i64 0] _ bo.range Tryd.underlying51 rfl (by kernel_rfl)
    refine bodyPost_ret (v := .agg #[.slice A1 r.length c1, .slice A2 ks.length c2, .int .i64 s, .int .i64 t, .int .i64 f, .int .i64 l, .int .i64 p, .int .i64 2, .int .u64 ep, .slice A7 m5 c7, .slice A4 td.length c4, .int .i64 q0, .int .i64 q1, .int .i64 q2, .int .i64 q3, .int .i64 q4, .int .i64 pk, .int .i64 sl, .int .u64 hd, .int .i64 tr, .slice A5 fr.length c5, .int .i64 0]) (by simp [results, Tryd.results20, Act.put, asAddr, hres]) rfl (by have hm := HM5.out; subst hm; exact ⟨⟨_, rfl, _, _, _, _, _, _, _, _, _, _, rfl, t1, t2, t3, t4, t5⟩, B0⟩)
  exact AllReadyZ.nil
set_option linter.unusedSimpArgs false in
set_option maxRecDepth 100000 in
set_option maxHeartbeats 4000000 in
theorem stook_2y (s t f l p ep : Int) (r : List (Int × Int)) (ks hz : List Int) (td : List (Int × Bool)) (q0 q1 q2 q3 q4 pk sl hd tr : Int) (fr : List Int) (ju : Int) (g : Int) (v : Value) (w : World) (hv : SwV w s t f l p 2 ep r ks hz td q0 q1 q2 q3 q4 pk sl hd tr fr ju v) (h3 : hz.length ≤ 900) (ht : 1 ≤ t ∧ t ≤ 64) (h1 : r.length ≤ 1000) (h2 : ks.length ≤ 1000) (hwr : ∀ x ∈ r, W64 x.1 ∧ W64 x.2) (hwk : ∀ x ∈ ks, W64 x) (hwz : ∀ x ∈ hz, W64 x) (hp : W64 ep) (hg : W64 g)
    (PP : Int → Int → Int → Int → Int → Int → Int → Int → Int → Int → Prop)
    (NX : ∀ v w1, SwV w1 s t f l p 2 ep (askL ep r (askOver r (hz ++ [g]) ep)) (ks ++ askOver r (hz ++ [g]) ep) (hz ++ [g]) (askTd r ks (hz ++ [g]) ep) q0 q1 q2 q3 q4 pk sl hd tr fr 0 v → Calls Tryd.prog 51 #[v] w1 fun e w2 => (∃ v2 k2 p0 p1 p2 p3 p4 pk2 sl2 hd2 tr2, e = .returned v2 ∧ SwV w2 s t f l p k2 ep (askL ep r (askOver r (hz ++ [g]) ep)) (ks ++ askOver r (hz ++ [g]) ep) (hz ++ [g]) (askTd r ks (hz ++ [g]) ep) p0 p1 p2 p3 p4 pk2 sl2 hd2 tr2 fr 0 v2 ∧ PP k2 p0 p1 p2 p3 p4 pk2 sl2 hd2 tr2) ∧ Below w1.heap.size w1 w2) (hq : (hz.length : Int) + 1 = 2 * t)
    : Calls Tryd.prog 20 #[v, .int .u64 g] w fun e w' => (∃ v2 k2 p0 p1 p2 p3 p4 pk2 sl2 hd2 tr2, e = .returned v2 ∧ SwV w' s t f l p k2 ep (askL ep r (askOver r (hz ++ [g]) ep)) (ks ++ askOver r (hz ++ [g]) ep) (hz ++ [g]) (askTd r ks (hz ++ [g]) ep) p0 p1 p2 p3 p4 pk2 sl2 hd2 tr2 fr 0 v2 ∧ PP k2 p0 p1 p2 p3 p4 pk2 sl2 hd2 tr2) ∧ Below w.heap.size w w' := by
  obtain ⟨A1, c1, A2, c2, A3, c3, A4, c4, A5, c5, rfl, t1, t2, t3, t4, t5⟩ := hv
  obtain ⟨i0, hi0, hz0, hs0, hb0⟩ := info_parts infoU64
  have H3 := hide h3
  have MN := hide (fun (MNH : Value) w2 => smany_any (.slice A1 r.length c1) (.slice A2 ks.length c2) (.int .i64 2) (.int .u64 ep) MNH (.slice A4 td.length c4) (.int .i64 q0) (.int .i64 q1) (.int .i64 q2) (.int .i64 q3) (.int .i64 q4) (.int .i64 pk) (.int .i64 sl) (.int .u64 hd) (.int .i64 tr) (.slice A5 fr.length c5) (.int .i64 0) s t f l p w2 ht) 
  have AK := hide (fun v w2 (h : SwV w2 s t f l p 2 ep r ks (hz ++ [g]) td q0 q1 q2 q3 q4 pk sl hd tr fr 0 v) => sasked_any s t f l p 2 ep r ks (hz ++ [g]) td q0 q1 q2 q3 q4 pk sl hd tr fr 0 v w2 h h1 h2 (by rw [List.length_append]; simp; omega) hwr hwk (fun x hx => by rcases List.mem_append.1 hx with hx | hx; exact hwz x hx; rw [List.mem_singleton] at hx; subst hx; exact hg) hp PP NX)
  clear h1 h2 hwr hwk hwz hp hg NX
  clear h3 ht
  have B0 := ((Below.refl w.heap.size w).alloc (Nat.le_refl _) (.cells #[.slice A1 r.length c1, .slice A2 ks.length c2, .int .i64 s, .int .i64 t, .int .i64 f, .int .i64 l, .int .i64 p, .int .i64 2, .int .u64 ep, .slice A3 hz.length c3, .slice A4 td.length c4, .int .i64 q0, .int .i64 q1, .int .i64 q2, .int .i64 q3, .int .i64 q4, .int .i64 pk, .int .i64 sl, .int .u64 hd, .int .i64 tr, .slice A5 fr.length c5, .int .i64 0] 51)).alloc (by simp only [World.size_alloc]; omega) (.cells #[.slice none 0 0, .slice none 0 0, .int .i64 0, .int .i64 0, .int .i64 0, .int .i64 0, .int .i64 0, .int .i64 0, .int .u64 0, .slice none 0 0, .slice none 0 0, .int .i64 0, .int .i64 0, .int .i64 0, .int .i64 0, .int .i64 0, .int .i64 0, .int .i64 0, .int .u64 0, .int .i64 0, .slice none 0 0, .int .i64 0] 51)
  have bs := (Blk.new w 51 #[.slice A1 r.length c1, .slice A2 ks.length c2, .int .i64 s, .int .i64 t, .int .i64 f, .int .i64 l, .int .i64 p, .int .i64 2, .int .u64 ep, .slice A3 hz.length c3, .slice A4 td.length c4, .int .i64 q0, .int .i64 q1, .int .i64 q2, .int .i64 q3, .int .i64 q4, .int .i64 pk, .int .i64 sl, .int .u64 hd, .int .i64 tr, .slice A5 fr.length c5, .int .i64 0]).alloc (.cells #[.slice none 0 0, .slice none 0 0, .int .i64 0, .int .i64 0, .int .i64 0, .int .i64 0, .int .i64 0, .int .i64 0, .int .u64 0, .slice none 0 0, .slice none 0 0, .int .i64 0, .int .i64 0, .int .i64 0, .int .i64 0, .int .i64 0, .int .i64 0, .int .i64 0, .int .u64 0, .int .i64 0, .slice none 0 0, .int .i64 0] 51)
  have bo := Blk.new (w.alloc (.cells #[.slice A1 r.length c1, .slice A2 ks.length c2, .int .i64 s, .int .i64 t, .int .i64 f, .int .i64 l, .int .i64 p, .int .i64 2, .int .u64 ep, .slice A3 hz.length c3, .slice A4 td.length c4, .int .i64 q0, .int .i64 q1, .int .i64 q2, .int .i64 q3, .int .i64 q4, .int .i64 pk, .int .i64 sl, .int .u64 hd, .int .i64 tr, .slice A5 fr.length c5, .int .i64 0] 51)) 51 #[.slice none 0 0, .slice none 0 0, .int .i64 0, .int .i64 0, .int .i64 0, .int .i64 0, .int .i64 0, .int .i64 0, .int .u64 0, .slice none 0 0, .slice none 0 0, .int .i64 0, .int .i64 0, .int .i64 0, .int .i64 0, .int .i64 0, .int .i64 0, .int .i64 0, .int .u64 0, .int .i64 0, .slice none 0 0, .int .i64 0]
  simp only [World.size_alloc] at bo
  replace t1 := (t1.alloc (.cells #[.slice A1 r.length c1, .slice A2 ks.length c2, .int .i64 s, .int .i64 t, .int .i64 f, .int .i64 l, .int .i64 p, .int .i64 2, .int .u64 ep, .slice A3 hz.length c3, .slice A4 td.length c4, .int .i64 q0, .int .i64 q1, .int .i64 q2, .int .i64 q3, .int .i64 q4, .int .i64 pk, .int .i64 sl, .int .u64 hd, .int .i64 tr, .slice A5 fr.length c5, .int .i64 0] 51)).alloc (.cells #[.slice none 0 0, .slice none 0 0, .int .i64 0, .int .i64 0, .int .i64 0, .int .i64 0, .int .i64 0, .int .i64 0, .int .u64 0, .slice none 0 0, .slice none 0 0, .int .i64 0, .int .i64 0, .int .i64 0, .int .i64 0, .int .i64 0, .int .i64 0, .int .i64 0, .int .u64 0, .int .i64 0, .slice none 0 0, .int .i64 0] 51)
  replace t2 := (t2.alloc (.cells #[.slice A1 r.length c1, .slice A2 ks.length c2, .int .i64 s, .int .i64 t, .int .i64 f, .int .i64 l, .int .i64 p, .int .i64 2, .int .u64 ep, .slice A3 hz.length c3, .slice A4 td.length c4, .int .i64 q0, .int .i64 q1, .int .i64 q2, .int .i64 q3, .int .i64 q4, .int .i64 pk, .int .i64 sl, .int .u64 hd, .int .i64 tr, .slice A5 fr.length c5, .int .i64 0] 51)).alloc (.cells #[.slice none 0 0, .slice none 0 0, .int .i64 0, .int .i64 0, .int .i64 0, .int .i64 0, .int .i64 0, .int .i64 0, .int .u64 0, .slice none 0 0, .slice none 0 0, .int .i64 0, .int .i64 0, .int .i64 0, .int .i64 0, .int .i64 0, .int .i64 0, .int .i64 0, .int .u64 0, .int .i64 0, .slice none 0 0, .int .i64 0] 51)
  replace t3 := (t3.alloc (.cells #[.slice A1 r.length c1, .slice A2 ks.length c2, .int .i64 s, .int .i64 t, .int .i64 f, .int .i64 l, .int .i64 p, .int .i64 2, .int .u64 ep, .slice A3 hz.length c3, .slice A4 td.length c4, .int .i64 q0, .int .i64 q1, .int .i64 q2, .int .i64 q3, .int .i64 q4, .int .i64 pk, .int .i64 sl, .int .u64 hd, .int .i64 tr, .slice A5 fr.length c5, .int .i64 0] 51)).alloc (.cells #[.slice none 0 0, .slice none 0 0, .int .i64 0, .int .i64 0, .int .i64 0, .int .i64 0, .int .i64 0, .int .i64 0, .int .u64 0, .slice none 0 0, .slice none 0 0, .int .i64 0, .int .i64 0, .int .i64 0, .int .i64 0, .int .i64 0, .int .i64 0, .int .i64 0, .int .u64 0, .int .i64 0, .slice none 0 0, .int .i64 0] 51)
  replace t4 := (t4.alloc (.cells #[.slice A1 r.length c1, .slice A2 ks.length c2, .int .i64 s, .int .i64 t, .int .i64 f, .int .i64 l, .int .i64 p, .int .i64 2, .int .u64 ep, .slice A3 hz.length c3, .slice A4 td.length c4, .int .i64 q0, .int .i64 q1, .int .i64 q2, .int .i64 q3, .int .i64 q4, .int .i64 pk, .int .i64 sl, .int .u64 hd, .int .i64 tr, .slice A5 fr.length c5, .int .i64 0] 51)).alloc (.cells #[.slice none 0 0, .slice none 0 0, .int .i64 0, .int .i64 0, .int .i64 0, .int .i64 0, .int .i64 0, .int .i64 0, .int .u64 0, .slice none 0 0, .slice none 0 0, .int .i64 0, .int .i64 0, .int .i64 0, .int .i64 0, .int .i64 0, .int .i64 0, .int .i64 0, .int .u64 0, .int .i64 0, .slice none 0 0, .int .i64 0] 51)
  replace t5 := (t5.alloc (.cells #[.slice A1 r.length c1, .slice A2 ks.length c2, .int .i64 s, .int .i64 t, .int .i64 f, .int .i64 l, .int .i64 p, .int .i64 2, .int .u64 ep, .slice A3 hz.length c3, .slice A4 td.length c4, .int .i64 q0, .int .i64 q1, .int .i64 q2, .int .i64 q3, .int .i64 q4, .int .i64 pk, .int .i64 sl, .int .u64 hd, .int .i64 tr, .slice A5 fr.length c5, .int .i64 0] 51)).alloc (.cells #[.slice none 0 0, .slice none 0 0, .int .i64 0, .int .i64 0, .int .i64 0, .int .i64 0, .int .i64 0, .int .i64 0, .int .u64 0, .slice none 0 0, .slice none 0 0, .int .i64 0, .int .i64 0, .int .i64 0, .int .i64 0, .int .i64 0, .int .i64 0, .int .i64 0, .int .u64 0, .int .i64 0, .slice none 0 0, .int .i64 0] 51)
  go_enter Tryd.func20, Tryd.ntmps20
  go_wp2_with fail
  generalize ((w.alloc (.cells #[.slice A1 r.length c1, .slice A2 ks.length c2, .int .i64 s, .int .i64 t, .int .i64 f, .int .i64 l, .int .i64 p, .int .i64 2, .int .u64 ep, .slice A3 hz.length c3, .slice A4 td.length c4, .int .i64 q0, .int .i64 q1, .int .i64 q2, .int .i64 q3, .int .i64 q4, .int .i64 pk, .int .i64 sl, .int .u64 hd, .int .i64 tr, .slice A5 fr.length c5, .int .i64 0] 51)).alloc (.cells #[.slice none 0 0, .slice none 0 0, .int .i64 0, .int .i64 0, .int .i64 0, .int .i64 0, .int .i64 0, .int .i64 0, .int .u64 0, .slice none 0 0, .slice none 0 0, .int .i64 0, .int .i64 0, .int .i64 0, .int .i64 0, .int .i64 0, .int .i64 0, .int .i64 0, .int .u64 0, .int .i64 0, .slice none 0 0, .int .i64 0] 51)) = w0 at *
  refine (clipu_any A3 hz.length c3 _ t3.cap.1 t3.cap.2.1).mono ?_
  rintro e w' ⟨rfl, rfl⟩
  have ms := fun i => bs.cell i
  go_wp2_with (at_builtin; refine wpList_append_grows _ rfl (.tmp 33) (.tmp 35) _ rfl 29 i0 _ 1 8 Tryd.underlying23 hi0 hz0 hs0 hb0 rfl (by decide) A3 hz.length hz.length (ints .u64 hz) rfl (fun h => ⟨(t3.cap.2.2 h).1, (t3.cap.2.2 h).1⟩) (by rw [ints_len, Nat.mul_one]) (t3.alloc (.cells #[.int .u64 g] 29)).holds ⟨w0.heap.size, 0, none⟩ 1 1 [.int .u64 g] rfl rfl (fun j u hj => by rw [Addr.add_lit]; have := (Blk.new w0 29 #[.int .u64 g]).cell j; simpa [this] using hj) (fun u hu => by simp only [List.mem_cons, List.not_mem_nil, or_false] at hu; subst hu; rfl) (by omega) (by unfold maxLen; have := H3.out; omega) (by have := H3.out; omega) ?_; intro v5 w4 o5 hg; replace t1 := (t1.alloc (.cells #[.int .u64 g] 29)).grown_none hg; replace t2 := (t2.alloc (.cells #[.int .u64 g] 29)).grown_none hg; replace t4 := (t4.alloc (.cells #[.int .u64 g] 29)).grown_none hg; replace t5 := (t5.alloc (.cells #[.int .u64 g] 29)).grown_none hg; replace bs := (bs.alloc (.cells #[.int .u64 g] 29)).grown hg (by simp); replace bo := (bo.alloc (.cells #[.int .u64 g] 29)).grown hg (by simp); replace B0 := (B0.alloc B0.size (.cells #[.int .u64 g] 29)).grown hg (by rw [World.size_alloc]; have := B0.size; omega) (fun _ h => by cases h); obtain ⟨m5, HM5⟩ : ∃ m, Hid (m = (hz ++ [g]).length) := ⟨_, hide rfl⟩; have t3 : Tr w4 29 1 v5 m5 (ints .u64 (hz ++ [g])) := (by rw [HM5.out, ints_append, List.length_append]; exact Tr.of_own o5); obtain ⟨A7, c7, rfl⟩ := t3.val; clear o5 hg ms; have ms := fun i => bs.cell i; have zs := fun i => bs.frozen i)
  replace t1 := t1.set_ bs (by decide) 9 (.slice A7 m5 c7)
  replace t2 := t2.set_ bs (by decide) 9 (.slice A7 m5 c7)
  replace t3 := t3.set_ bs (by decide) 9 (.slice A7 m5 c7)
  replace t4 := t4.set_ bs (by decide) 9 (.slice A7 m5 c7)
  replace t5 := t5.set_ bs (by decide) 9 (.slice A7 m5 c7)
  replace bo := bo.far (p := ⟨w.heap.size, 9, none⟩) (by show w.heap.size + 1 ≠ w.heap.size; omega) (.slice A7 m5 c7)
  replace B0 := B0.setCell (p := ⟨w.heap.size, 9, none⟩) (Nat.le_refl _) (.slice A7 m5 c7)
  replace bs := bs.set_ 9 (.slice A7 m5 c7)
  simp only [List.setIfInBounds_toArray, List.set_cons_zero, List.set_cons_succ] at bs
  clear ms zs
  generalize w4.setCell ⟨w.heap.size, 9, none⟩ (.slice A7 m5 c7) = w5 at *
  have hq2 : (m5 : Int) = (hz.length : Int) + 1 := by rw [HM5.out, List.length_append]; simp
  have hq3 : ((m5 : Int) == 2 * t) = true := by rw [beq_iff_eq]; omega
  refine wp_region_heldZ [] (fun w' => w'.cell? ⟨w.heap.size, 9, none⟩ = some (.slice A7 m5 c7) ∧ w'.rangeAt w.heap.size 0 [.slice A1 r.length c1, .slice A2 ks.length c2, .int .i64 s, .int .i64 t, .int .i64 f, .int .i64 l, .int .i64 p, .int .i64 2, .int .u64 ep, .slice A7 m5 c7, .slice A4 td.length c4, .int .i64 q0, .int .i64 q1, .int .i64 q2, .int .i64 q3, .int .i64 q4, .int .i64 pk, .int .i64 sl, .int .u64 hd, .int .i64 tr, .slice A5 fr.length c5, .int .i64 0]) (by kernel_rfl) (by exact ⟨bs.cell 9, bs.range⟩) (fun hHeld => ?_)
  replace t1 := t1.drew
  replace t2 := t2.drew
  replace t3 := t3.drew
  replace t4 := t4.drew
  replace t5 := t5.drew
  replace bs := bs.drew
  replace bo := bo.drew
  replace B0 := B0.drew
  generalize w5.drew = wd at *
  refine' wpAnyZ_takeA (i := 0) (v := ?_) (opAt rfl) (by kernel_rfl) (by kernel_rfl) (by kernel_rfl) (by kernel_rfl) (fun _ _ _ h => h) (by assumption) (by rfl) (fun w hSw => ?_) ?_
  rotate_left
  · (try dsimp only at hSw); go_simp; (try with_reducible rfl)
  try simp only [Act.put, List.setIfInBounds_toArray, List.set_cons_zero, List.set_cons_succ]
  refine' wpAnyZ_takeA (i := 1) (v := ?_) (opAt rfl) (by kernel_rfl) (by kernel_rfl) (by kernel_rfl) (by kernel_rfl) (fun _ _ _ h => h) (by assumption) (by rfl) (fun w hSw => ?_) ?_
  rotate_left
  · (try dsimp only at hSw); go_simp; (try with_reducible rfl)
  try simp only [Act.put, List.setIfInBounds_toArray, List.set_cons_zero, List.set_cons_succ]
  refine' wpAnyZ_takeA (i := 2) (v := ?_) (opAt rfl) (by kernel_rfl) (by kernel_rfl) (by kernel_rfl) (by kernel_rfl) (fun _ _ _ h => h) (by assumption) (by rfl) (fun w hSw => ?_) ?_
  rotate_left
  · (try dsimp only at hSw); go_simp; (try with_reducible rfl)
  try simp only [Act.put, List.setIfInBounds_toArray, List.set_cons_zero, List.set_cons_succ]
  refine' wpAnyZ_takeA (i := 3) (v := .agg #[.slice A1 r.length c1, .slice A2 ks.length c2, .int .i64 s, .int .i64 t, .int .i64 f, .int .i64 l, .int .i64 p, .int .i64 2, .int .u64 ep, .slice A7 m5 c7, .slice A4 td.length c4, .int .i64 q0, .int .i64 q1, .int .i64 q2, .int .i64 q3, .int .i64 q4, .int .i64 pk, .int .i64 sl, .int .u64 hd, .int .i64 tr, .slice A5 fr.length c5, .int .i64 0]) (opAt rfl) (by kernel_rfl) (by kernel_rfl) (by kernel_rfl) (by kernel_rfl) (fun _ _ _ h => h) (by assumption) (by rfl) (fun w hSw => ?_) ?_
  · exact exec_load_mid 51 (.tmp 2) rfl _ 0 (by rfl) [.slice A1 r.length c1, .slice A2 ks.length c2, .int .i64 s, .int .i64 t, .int .i64 f, .int .i64 l, .int .i64 p, .int .i64 2, .int .u64 ep, .slice A7 m5 c7, .slice A4 td.length c4, .int .i64 q0, .int .i64 q1, .int .i64 q2, .int .i64 q3, .int .i64 q4, .int .i64 pk, .int .i64 sl, .int .u64 hd, .int .i64 tr, .slice A5 fr.length c5, .int .i64 0] _ hSw.2 Tryd.underlying51 rfl (by kernel_rfl)
  try simp only [Act.put, List.setIfInBounds_toArray, List.set_cons_zero, List.set_cons_succ]
  refine wpAnyZ_ready (rs := [4]) (by kernel_rfl) (by simp) ?_
  refine AllReadyZ.cons (opAt rfl) (fun K hK => ?_) ?_
  · skip
    go_simp
    refine (MN.out _ _).mono ?_
    rintro e w6 ⟨rfl, hb⟩
    replace t1 := t1.below (Nat.le_refl _) hb
    replace t2 := t2.below (Nat.le_refl _) hb
    replace t3 := t3.below (Nat.le_refl _) hb
    replace t4 := t4.below (Nat.le_refl _) hb
    replace t5 := t5.below (Nat.le_refl _) hb
    replace bs := bs.below hb bs.lt
    replace bo := bo.below hb bo.lt
    replace B0 := B0.trans (hb.mono B0.size)
    clear hb
    try go_wp2_with fail
    refine hK.out _ _ (by exact ⟨bs.cell 9, bs.range⟩) (fun hHeld => ?_)
    clear hK K
    try simp only [Act.put, List.setIfInBounds_toArray, List.set_cons_zero, List.set_cons_succ]
    refine' wpAnyZ_takeA (i := 5) (v := ?_) (opAt rfl) (by kernel_rfl) (by kernel_rfl) (by kernel_rfl) (by kernel_rfl) (fun _ _ _ h => h) (by assumption) (by rfl) (fun w hSw => ?_) ?_
    rotate_left
    · (try dsimp only at hSw); go_simp; (try with_reducible rfl)
    try simp only [Act.put, List.setIfInBounds_toArray, List.set_cons_zero, List.set_cons_succ]
    refine wpAnyZ_done (by kernel_rfl) ?_ _
    clear hHeld hq2 hq3
    generalize hHH : hz ++ [g] = hh at *
    have HHH := hide hHH
    clear hHH
    have hm := HM5.out
    subst hm
    go_wp2_with (first | (refine wpList_load_mid rfl 51 (.tmp 2) rfl w.heap.size 0 (by rfl) [.slice A1 r.length c1, .slice A2 ks.length c2, .int .i64 s, .int .i64 t, .int .i64 f, .int .i64 l, .int .i64 p, .int .i64 2, .int .u64 ep, .slice A7 hh.length c7, .slice A4 td.length c4, .int .i64 q0, .int .i64 q1, .int .i64 q2, .int .i64 q3, .int .i64 q4, .int .i64 pk, .int .i64 sl, .int .u64 hd, .int .i64 tr, .slice A5 fr.length c5, .int .i64 0] _ bs.range Tryd.underlying51 rfl (by kernel_rfl) ?_))
    refine (AK.out _ w6 ⟨_, _, _, _, _, _, _, _, _, _, rfl, t1, t2, t3, t4, t5⟩).mono ?_
    rintro e w7 ⟨⟨v2, k2, p0, p1, p2, p3, p4, pk2, sl2, hd2, tr2, rfl, hv2, hpp⟩, hbb⟩
    clear t1 t2 t3 t4 t5 bs AK MN H3
    replace bo := bo.below hbb bo.lt
    replace B0 := B0.trans (hbb.mono B0.size)
    have HPP := hide hpp
    clear hbb hpp
    generalize hKK : ks ++ askOver r hh ep = kk at *
    have HKK := hide hKK
    clear hKK
    generalize hRR : askL ep r (askOver r hh ep) = rr at *
    have HRR := hide hRR
    clear hRR
    generalize hDD : askTd r ks hh ep = dd at *
    have HDD := hide hDD
    clear hDD
    obtain ⟨B1, d1, B2, d2, B3, d3, B4, d4, B5, d5, rfl, t1, t2, t3, t4, t5⟩ := hv2
    go_wp2_with (first | (refine wpList_store_mid rfl 51 (.tmp 4) (.tmp 45) rfl (w.heap.size + 1) 0 #[.slice B1 rr.length d1, .slice B2 kk.length d2, .int .i64 s, .int .i64 t, .int .i64 f, .int .i64 l, .int .i64 p, .int .i64 k2, .int .u64 ep, .slice B3 hh.length d3, .slice B4 dd.length d4, .int .i64 p0, .int .i64 p1, .int .i64 p2, .int .i64 p3, .int .i64 p4, .int .i64 pk2, .int .i64 sl2, .int .u64 hd2, .int .i64 tr2, .slice B5 fr.length d5, .int .i64 0] (by rfl) (by rfl) (bo.there rfl) (by kernel_rfl) (by kernel_rfl) ?_))
    replace t1 := (show Tr (w7.setCells (w.heap.size + 1) 0 [.slice B1 rr.length d1, .slice B2 kk.length d2, .int .i64 s, .int .i64 t, .int .i64 f, .int .i64 l, .int .i64 p, .int .i64 k2, .int .u64 ep, .slice B3 hh.length d3, .slice B4 dd.length d4, .int .i64 p0, .int .i64 p1, .int .i64 p2, .int .i64 p3, .int .i64 p4, .int .i64 pk2, .int .i64 sl2, .int .u64 hd2, .int .i64 tr2, .slice B5 fr.length d5, .int .i64 0]) _ _ _ _ _ from by rw [putL_eq]; exact Tr.putL (by decide) _ 0 bo t1)
    replace t2 := (show Tr (w7.setCells (w.heap.size + 1) 0 [.slice B1 rr.length d1, .slice B2 kk.length d2, .int .i64 s, .int .i64 t, .int .i64 f, .int .i64 l, .int .i64 p, .int .i64 k2, .int .u64 ep, .slice B3 hh.length d3, .slice B4 dd.length d4, .int .i64 p0, .int .i64 p1, .int .i64 p2, .int .i64 p3, .int .i64 p4, .int .i64 pk2, .int .i64 sl2, .int .u64 hd2, .int .i64 tr2, .slice B5 fr.length d5, .int .i64 0]) _ _ _ _ _ from by rw [putL_eq]; exact Tr.putL (by decide) _ 0 bo t2)
    replace t3 := (show Tr (w7.setCells (w.heap.size + 1) 0 [.slice B1 rr.length d1, .slice B2 kk.length d2, .int .i64 s, .int .i64 t, .int .i64 f, .int .i64 l, .int .i64 p, .int .i64 k2, .int .u64 ep, .slice B3 hh.length d3, .slice B4 dd.length d4, .int .i64 p0, .int .i64 p1, .int .i64 p2, .int .i64 p3, .int .i64 p4, .int .i64 pk2, .int .i64 sl2, .int .u64 hd2, .int .i64 tr2, .slice B5 fr.length d5, .int .i64 0]) _ _ _ _ _ from by rw [putL_eq]; exact Tr.putL (by decide) _ 0 bo t3)
    replace t4 := (show Tr (w7.setCells (w.heap.size + 1) 0 [.slice B1 rr.length d1, .slice B2 kk.length d2, .int .i64 s, .int .i64 t, .int .i64 f, .int .i64 l, .int .i64 p, .int .i64 k2, .int .u64 ep, .slice B3 hh.length d3, .slice B4 dd.length d4, .int .i64 p0, .int .i64 p1, .int .i64 p2, .int .i64 p3, .int .i64 p4, .int .i64 pk2, .int .i64 sl2, .int .u64 hd2, .int .i64 tr2, .slice B5 fr.length d5, .int .i64 0]) _ _ _ _ _ from by rw [putL_eq]; exact Tr.putL (by decide) _ 0 bo t4)
    replace t5 := (show Tr (w7.setCells (w.heap.size + 1) 0 [.slice B1 rr.length d1, .slice B2 kk.length d2, .int .i64 s, .int .i64 t, .int .i64 f, .int .i64 l, .int .i64 p, .int .i64 k2, .int .u64 ep, .slice B3 hh.length d3, .slice B4 dd.length d4, .int .i64 p0, .int .i64 p1, .int .i64 p2, .int .i64 p3, .int .i64 p4, .int .i64 pk2, .int .i64 sl2, .int .u64 hd2, .int .i64 tr2, .slice B5 fr.length d5, .int .i64 0]) _ _ _ _ _ from by rw [putL_eq]; exact Tr.putL (by decide) _ 0 bo t5)
    replace B0 := (show Below w.heap.size w (w7.setCells (w.heap.size + 1) 0 [.slice B1 rr.length d1, .slice B2 kk.length d2, .int .i64 s, .int .i64 t, .int .i64 f, .int .i64 l, .int .i64 p, .int .i64 k2, .int .u64 ep, .slice B3 hh.length d3, .slice B4 dd.length d4, .int .i64 p0, .int .i64 p1, .int .i64 p2, .int .i64 p3, .int .i64 p4, .int .i64 pk2, .int .i64 sl2, .int .u64 hd2, .int .i64 tr2, .slice B5 fr.length d5, .int .i64 0]) from by rw [putL_eq]; exact Below.putL (by omega) _ _ 0 B0)
    replace bo := (show Blk (w7.setCells (w.heap.size + 1) 0 [.slice B1 rr.length d1, .slice B2 kk.length d2, .int .i64 s, .int .i64 t, .int .i64 f, .int .i64 l, .int .i64 p, .int .i64 k2, .int .u64 ep, .slice B3 hh.length d3, .slice B4 dd.length d4, .int .i64 p0, .int .i64 p1, .int .i64 p2, .int .i64 p3, .int .i64 p4, .int .i64 pk2, .int .i64 sl2, .int .u64 hd2, .int .i64 tr2, .slice B5 fr.length d5, .int .i64 0]) (w.heap.size + 1) 51 #[.slice B1 rr.length d1, .slice B2 kk.length d2, .int .i64 s, .int .i64 t, .int .i64 f, .int .i64 l, .int .i64 p, .int .i64 k2, .int .u64 ep, .slice B3 hh.length d3, .slice B4 dd.length d4, .int .i64 p0, .int .i64 p1, .int .i64 p2, .int .i64 p3, .int .i64 p4, .int .i64 pk2, .int .i64 sl2, .int .u64 hd2, .int .i64 tr2, .slice B5 fr.length d5, .int .i64 0] from by rw [putL_eq]; have h9 := Blk.putL [.slice B1 rr.length d1, .slice B2 kk.length d2, .int .i64 s, .int .i64 t, .int .i64 f, .int .i64 l, .int .i64 p, .int .i64 k2, .int .u64 ep, .slice B3 hh.length d3, .slice B4 dd.length d4, .int .i64 p0, .int .i64 p1, .int .i64 p2, .int .i64 p3, .int .i64 p4, .int .i64 pk2, .int .i64 sl2, .int .u64 hd2, .int .i64 tr2, .slice B5 fr.length d5, .int .i64 0] _ _ 0 bo; simpa only [setL, List.setIfInBounds_toArray, List.set_cons_zero, List.set_cons_succ] using h9)
    generalize w7.setCells (w.heap.size + 1) 0 [.slice B1 rr.length d1, .slice B2 kk.length d2, .int .i64 s, .int .i64 t, .int .i64 f, .int .i64 l, .int .i64 p, .int .i64 k2, .int .u64 ep, .slice B3 hh.length d3, .slice B4 dd.length d4, .int .i64 p0, .int .i64 p1, .int .i64 p2, .int .i64 p3, .int .i64 p4, .int .i64 pk2, .int .i64 sl2, .int .u64 hd2, .int .i64 tr2, .slice B5 fr.length d5, .int .i64 0] = w12 at *
    have hres : (loadVar 51 ⟨w.heap.size + 1, 0, none⟩).run Tryd.prog w12 = .ok (.agg #[.slice B1 rr.length d1, .slice B2 kk.length d2, .int .i64 s, .int .i64 t, .int .i64 f, .int .i64 l, .int .i64 p, .int .i64 k2, .int .u64 ep, .slice B3 hh.length d3, .slice B4 dd.length d4, .int .i64 p0, .int .i64 p1, .int .i64 p2, .int .i64 p3, .int .i64 p4, .int .i64 pk2, .int .i64 sl2, .int .u64 hd2, .int .i64 tr2, .slice B5 fr.length d5, .int .i64 0]) w12 := run_loadVar_mid w12 _ 0 _ [.slice B1 rr.length d1, .slice B2 kk.length d2, .int .i64 s, .int .i64 t, .int .i64 f, .int .i64 l, .int .i64 p, .int .i64 k2, .int .u64 ep, .slice B3 hh.length d3, .slice B4 dd.length d4, .int .i64 p0, .int .i64 p1, .int .i64 p2, .int .i64 p3, .int .i64 p4, .int .i64 pk2, .int .i64 sl2, .int .u64 hd2, .int .i64 tr2, .slice B5 fr.length d5, .int .i64 0] _ bo.range Tryd.underlying51 rfl (by kernel_rfl)
    refine bodyPost_ret (v := .agg #[.slice B1 rr.length d1, .slice B2 kk.length d2, .int .i64 s, .int .i64 t, .int .i64 f, .int .i64 l, .int .i64 p, .int .i64 k2, .int .u64 ep, .slice B3 hh.length d3, .slice B4 dd.length d4, .int .i64 p0, .int .i64 p1, .int .i64 p2, .int .i64 p3, .int .i64 p4, .int .i64 pk2, .int .i64 sl2, .int .u64 hd2, .int .i64 tr2, .slice B5 fr.length d5, .int .i64 0]) (by simp [results, Tryd.results20, Act.put, asAddr, hres]) rfl (by have h1 := HDD.out; have h2 := HKK.out; have h3 := HRR.out; have h4 := HHH.out; subst h4; subst h1 h2 h3; exact ⟨⟨_, k2, p0, p1, p2, p3, p4, pk2, sl2, hd2, tr2, rfl, ⟨_, _, _, _, _, _, _, _, _, _, rfl, t1, t2, t3, t4, t5⟩, HPP.out⟩, B0⟩)
  exact AllReadyZ.nil
end Go.Proofs.YtokcbipmocpllaaDoor

/-
  Package sweep: Want, Now, Freed.
-/
namespace Go.Proofs.YtokcbipmocpllaaDoor
open Go.RowKit

set_option linter.unusedSimpArgs false in
set_option maxRecDepth 100000 in
set_option maxHeartbeats 4000000 in
theorem swant_3 (v0 v1 v2 v3 v4 v5 v6 v8 v9 v10 v20 v21 : Value) (s t f l p : Int) (x : Int × Int × Int × Int) (w : World) (hx : PsIn s x) (h : x.1 = 0 ∨ ((1 ≤ s ∧ s ≤ 1000) ∧ (1 ≤ t ∧ t ≤ 64) ∧ (4 ≤ f ∧ f ≤ 64))) :
    Calls Tryd.prog 22 #[.agg #[v0, v1, v2, v3, v4, v5, v6, .int .i64 3, v8, v9, v10, .int .i64 s, .int .i64 t, .int .i64 f, .int .i64 l, .int .i64 p, .int .i64 x.1, .int .i64 x.2.1, .int .u64 x.2.2.1, .int .i64 x.2.2.2, v20, v21]] w fun e w' => e = .returned (.agg #[.int .i64 (psAsk t f x).1, .int .i64 (psAsk t f x).2.1, .int .u64 (psAsk t f x).2.2.1, .int .u64 (psAsk t f x).2.2.2]) ∧ Below w.heap.size w w' := by
  have PW := hide (fun w2 => pswant_any s t f l p x w2 hx h)
  clear hx h
  generalize (psAsk t f x).1 = y1 at *
  generalize (psAsk t f x).2.1 = y2 at *
  generalize (psAsk t f x).2.2.1 = y3 at *
  generalize (psAsk t f x).2.2.2 = y4 at *
  have B0 := ((Below.refl w.heap.size w).alloc (Nat.le_refl _) (.cells #[v0, v1, v2, v3, v4, v5, v6, .int .i64 3, v8, v9, v10, .int .i64 s, .int .i64 t, .int .i64 f, .int .i64 l, .int .i64 p, .int .i64 x.1, .int .i64 x.2.1, .int .u64 x.2.2.1, .int .i64 x.2.2.2, v20, v21] 51)).alloc (by simp only [World.size_alloc]; omega) (.cells #[.int .i64 0, .int .i64 0, .int .u64 0, .int .u64 0] 57)
  have bo := Blk.new (w.alloc (.cells #[v0, v1, v2, v3, v4, v5, v6, .int .i64 3, v8, v9, v10, .int .i64 s, .int .i64 t, .int .i64 f, .int .i64 l, .int .i64 p, .int .i64 x.1, .int .i64 x.2.1, .int .u64 x.2.2.1, .int .i64 x.2.2.2, v20, v21] 51)) 57 #[.int .i64 0, .int .i64 0, .int .u64 0, .int .u64 0]
  rw [World.size_alloc] at bo
  go_enter Tryd.func22, Tryd.ntmps22
  go_wp2_with fail
  generalize (w.alloc (.cells #[v0, v1, v2, v3, v4, v5, v6, .int .i64 3, v8, v9, v10, .int .i64 s, .int .i64 t, .int .i64 f, .int .i64 l, .int .i64 p, .int .i64 x.1, .int .i64 x.2.1, .int .u64 x.2.2.1, .int .i64 x.2.2.2, v20, v21] 51)).alloc (.cells #[.int .i64 0, .int .i64 0, .int .u64 0, .int .u64 0] 57) = w0 at *
  refine (PW.out _).mono ?_
  rintro e w1 ⟨rfl, hb⟩
  replace bo := bo.below hb bo.lt
  replace B0 := B0.trans (hb.mono B0.size)
  clear hb
  have mo := fun i => bo.cell i
  have zo := fun i => bo.frozen i
  go_wp2_with fail
  have b9 := bo.put4 (.int .i64 y1) (.int .i64 y2) (.int .u64 y3) (.int .u64 y4)
  have B9 := below_put4 B0 (g := w.heap.size + 1) (by omega) (.int .i64 y1) (.int .i64 y2) (.int .u64 y3) (.int .u64 y4)
  clear mo zo
  have m9 := fun i => b9.cell i
  refine bodyPost_ret (v := .agg #[.int .i64 y1, .int .i64 y2, .int .u64 y3, .int .u64 y4]) (by simp [results, Tryd.results22, go_sem, m9]) rfl ⟨rfl, B9⟩
set_option linter.unusedSimpArgs false in
set_option maxRecDepth 100000 in
set_option maxHeartbeats 4000000 in
theorem swant_1 (v0 v1 v8 v9 v10 v11 v12 v13 v14 v15 v16 v17 v18 v19 v20 v21 : Value) (s t f l p : Int) (w : World) (hs : 1 ≤ s ∧ s ≤ 1000) (ht : 1 ≤ t ∧ t ≤ 64) (hf : 4 ≤ f ∧ f ≤ 64) :
    Calls Tryd.prog 22 #[.agg #[v0, v1, .int .i64 s, .int .i64 t, .int .i64 f, .int .i64 l, .int .i64 p, .int .i64 1, v8, v9, v10, v11, v12, v13, v14, v15, v16, v17, v18, v19, v20, v21]] w fun e w' => e = .returned (.agg #[.int .i64 1, .int .i64 0, .int .u64 0, .int .u64 0]) ∧ Below w.heap.size w w' := by
  have AT := hide (fun w2 => at_any s t f l p 1 0 0 w2 hs ht hf)
  rw [atp_first (by omega)] at AT
  have h11 : (1 : Int) - 1 = 0 := rfl
  rw [h11] at AT
  clear hs ht hf
  have B0 := ((Below.refl w.heap.size w).alloc (Nat.le_refl _) (.cells #[v0, v1, .int .i64 s, .int .i64 t, .int .i64 f, .int .i64 l, .int .i64 p, .int .i64 1, v8, v9, v10, v11, v12, v13, v14, v15, v16, v17, v18, v19, v20, v21] 51)).alloc (by simp only [World.size_alloc]; omega) (.cells #[.int .i64 0, .int .i64 0, .int .u64 0, .int .u64 0] 57)
  have bo := Blk.new (w.alloc (.cells #[v0, v1, .int .i64 s, .int .i64 t, .int .i64 f, .int .i64 l, .int .i64 p, .int .i64 1, v8, v9, v10, v11, v12, v13, v14, v15, v16, v17, v18, v19, v20, v21] 51)) 57 #[.int .i64 0, .int .i64 0, .int .u64 0, .int .u64 0]
  rw [World.size_alloc] at bo
  go_enter Tryd.func22, Tryd.ntmps22
  go_wp2_with fail
  generalize (w.alloc (.cells #[v0, v1, .int .i64 s, .int .i64 t, .int .i64 f, .int .i64 l, .int .i64 p, .int .i64 1, v8, v9, v10, v11, v12, v13, v14, v15, v16, v17, v18, v19, v20, v21] 51)).alloc (.cells #[.int .i64 0, .int .i64 0, .int .u64 0, .int .u64 0] 57) = w0 at *
  refine (AT.out _).mono ?_
  rintro e w1 ⟨rfl, hb⟩
  replace bo := bo.below hb bo.lt
  replace B0 := B0.trans (hb.mono B0.size)
  clear hb
  have mo := fun i => bo.cell i
  have zo := fun i => bo.frozen i
  go_wp2_with fail
  have b9 := bo.put4 (.int .i64 1) (.int .i64 0) (.int .u64 0) (.int .u64 0)
  have B9 := below_put4 B0 (g := w.heap.size + 1) (by omega) (.int .i64 1) (.int .i64 0) (.int .u64 0) (.int .u64 0)
  clear mo zo
  have m9 := fun i => b9.cell i
  refine bodyPost_ret (v := .agg #[.int .i64 1, .int .i64 0, .int .u64 0, .int .u64 0]) (by simp [results, Tryd.results22, go_sem, m9]) rfl ⟨rfl, B9⟩
set_option linter.unusedSimpArgs false in
set_option maxRecDepth 100000 in
set_option maxHeartbeats 4000000 in
theorem swant_2 (v0 v1 v8 v10 v11 v12 v13 v14 v15 v16 v17 v18 v19 v20 v21 : Value) (A3 : Option Addr) (n3 c3 : Nat) (s t f l p : Int) (w : World) (hs : 1 ≤ s ∧ s ≤ 1000) (ht : 1 ≤ t ∧ t ≤ 64) (hf : 4 ≤ f ∧ f ≤ 64) (hn : (n3 : Int) < 2 * t) :
    Calls Tryd.prog 22 #[.agg #[v0, v1, .int .i64 s, .int .i64 t, .int .i64 f, .int .i64 l, .int .i64 p, .int .i64 2, v8, .slice A3 n3 c3, v10, v11, v12, v13, v14, v15, v16, v17, v18, v19, v20, v21]] w fun e w' => e = .returned (.agg #[.int .i64 1, .int .i64 (3 + t + n3), .int .u64 0, .int .u64 0]) ∧ Below w.heap.size w w' := by
  have hqr : (n3 : Int).tdiv 2 = (n3 : Int) / 2 ∧ (n3 : Int).tmod 2 = (n3 : Int) % 2 := ⟨Int.tdiv_eq_ediv_of_nonneg (by omega), Int.tmod_eq_emod_of_nonneg (by omega)⟩
  have HZ := hide (fun w2 => lhaz_any s t f l p ((n3 : Int) / 2) ((n3 : Int) % 2) w2 hs ht hf)
  rw [atp5 (by omega) (by omega)] at HZ
  have he : 3 + t + 2 * ((n3 : Int) / 2) + (n3 : Int) % 2 = 3 + t + n3 := by omega
  rw [he] at HZ
  have hw1 : IntKind.i64.wrap ((n3 : Int) / 2) = (n3 : Int) / 2 := IntWalk.i64_in _ (by omega)
  have hw2 : IntKind.i64.wrap ((n3 : Int) % 2) = (n3 : Int) % 2 := IntWalk.i64_in _ (by omega)
  clear hs ht hf
  have B0 := ((Below.refl w.heap.size w).alloc (Nat.le_refl _) (.cells #[v0, v1, .int .i64 s, .int .i64 t, .int .i64 f, .int .i64 l, .int .i64 p, .int .i64 2, v8, .slice A3 n3 c3, v10, v11, v12, v13, v14, v15, v16, v17, v18, v19, v20, v21] 51)).alloc (by simp only [World.size_alloc]; omega) (.cells #[.int .i64 0, .int .i64 0, .int .u64 0, .int .u64 0] 57)
  have bo := Blk.new (w.alloc (.cells #[v0, v1, .int .i64 s, .int .i64 t, .int .i64 f, .int .i64 l, .int .i64 p, .int .i64 2, v8, .slice A3 n3 c3, v10, v11, v12, v13, v14, v15, v16, v17, v18, v19, v20, v21] 51)) 57 #[.int .i64 0, .int .i64 0, .int .u64 0, .int .u64 0]
  rw [World.size_alloc] at bo
  go_enter Tryd.func22, Tryd.ntmps22
  go_wp2_with fail
  generalize (w.alloc (.cells #[v0, v1, .int .i64 s, .int .i64 t, .int .i64 f, .int .i64 l, .int .i64 p, .int .i64 2, v8, .slice A3 n3 c3, v10, v11, v12, v13, v14, v15, v16, v17, v18, v19, v20, v21] 51)).alloc (.cells #[.int .i64 0, .int .i64 0, .int .u64 0, .int .u64 0] 57) = w0 at *
  refine (HZ.out _).mono ?_
  rintro e w1 ⟨rfl, hb⟩
  replace bo := bo.below hb bo.lt
  replace B0 := B0.trans (hb.mono B0.size)
  clear hb
  have mo := fun i => bo.cell i
  have zo := fun i => bo.frozen i
  go_wp2_with fail
  have b9 := bo.put4 (.int .i64 1) (.int .i64 (3 + t + n3)) (.int .u64 0) (.int .u64 0)
  have B9 := below_put4 B0 (g := w.heap.size + 1) (by omega) (.int .i64 1) (.int .i64 (3 + t + n3)) (.int .u64 0) (.int .u64 0)
  clear mo zo
  have m9 := fun i => b9.cell i
  refine bodyPost_ret (v := .agg #[.int .i64 1, .int .i64 (3 + t + n3), .int .u64 0, .int .u64 0]) (by simp [results, Tryd.results22, go_sem, m9]) rfl ⟨rfl, B9⟩
end Go.Proofs.YtokcbipmocpllaaDoor

/-
  Package sweep: Now, Freed; Took where a slot is put on the list.
-/
namespace Go.Proofs.YtokcbipmocpllaaDoor
open Go.RowKit

set_option linter.unusedSimpArgs false in
set_option maxRecDepth 100000 in
set_option maxHeartbeats 4000000 in
theorem snow_any (v2 v3 v4 v5 v6 v7 v8 v9 v10 v11 v12 v13 v14 v15 v16 v17 v18 v19 v20 v21 : Value) (A1 : Option Addr) (n1 c1 : Nat) (A2 : Option Addr) (n2 c2 : Nat) (r : List (Int × Int)) (ks : List Int) (w : World) (h1 : r.length ≤ 1000) (h2 : ks.length ≤ 1000) (t1 : Tr w 31 2 (.slice A1 n1 c1) n1 (rec2 r)) (t2 : Tr w 29 1 (.slice A2 n2 c2) n2 (ints .u64 ks)) :
    Calls Tryd.prog 24 #[.agg #[.slice A1 n1 c1, .slice A2 n2 c2, v2, v3, v4, v5, v6, v7, v8, v9, v10, v11, v12, v13, v14, v15, v16, v17, v18, v19, v20, v21]] w fun e w' => (∃ A3 c3 A4 c4, e = .returned (.agg #[.slice A3 r.length c3, .slice A4 ks.length c4]) ∧ Tr w' 31 2 (.slice A3 r.length c3) r.length (rec2 r) ∧ Tr w' 29 1 (.slice A4 ks.length c4) ks.length (ints .u64 ks)) ∧ Below w.heap.size w w' := by
  have e1 : r.length = n1 := by have := t1.len; rw [rec2_flat] at this; omega
  have e2 : ks.length = n2 := by have := t2.len; rw [ints_len] at this; omega
  subst e1 e2
  have CP := hide (fun w2 (a : Tr w2 31 2 (.slice A1 r.length c1) r.length (rec2 r)) (b : Tr w2 29 1 (.slice A2 ks.length c2) ks.length (ints .u64 ks)) => copied_any A1 r.length c1 r (.slice A2 ks.length c2) ks w2 h1 h2 a.reads b.sl)
  have B0 := ((Below.refl w.heap.size w).alloc (Nat.le_refl _) (.cells #[.slice A1 r.length c1, .slice A2 ks.length c2, v2, v3, v4, v5, v6, v7, v8, v9, v10, v11, v12, v13, v14, v15, v16, v17, v18, v19, v20, v21] 51)).alloc (by simp only [World.size_alloc]; omega) (.cells #[.slice none 0 0, .slice none 0 0] 25)
  have bo := Blk.new (w.alloc (.cells #[.slice A1 r.length c1, .slice A2 ks.length c2, v2, v3, v4, v5, v6, v7, v8, v9, v10, v11, v12, v13, v14, v15, v16, v17, v18, v19, v20, v21] 51)) 25 #[.slice none 0 0, .slice none 0 0]
  rw [World.size_alloc] at bo
  replace t1 := (t1.alloc (.cells #[.slice A1 r.length c1, .slice A2 ks.length c2, v2, v3, v4, v5, v6, v7, v8, v9, v10, v11, v12, v13, v14, v15, v16, v17, v18, v19, v20, v21] 51)).alloc (.cells #[.slice none 0 0, .slice none 0 0] 25)
  replace t2 := (t2.alloc (.cells #[.slice A1 r.length c1, .slice A2 ks.length c2, v2, v3, v4, v5, v6, v7, v8, v9, v10, v11, v12, v13, v14, v15, v16, v17, v18, v19, v20, v21] 51)).alloc (.cells #[.slice none 0 0, .slice none 0 0] 25)
  clear h1 h2
  go_enter Tryd.func24, Tryd.ntmps24
  go_wp2_with fail
  generalize (w.alloc (.cells #[.slice A1 r.length c1, .slice A2 ks.length c2, v2, v3, v4, v5, v6, v7, v8, v9, v10, v11, v12, v13, v14, v15, v16, v17, v18, v19, v20, v21] 51)).alloc (.cells #[.slice none 0 0, .slice none 0 0] 25) = w0 at *
  refine (CP.out _ t1 t2).mono ?_
  rintro e w1 ⟨⟨A3, c3, u, rfl, o3, o4⟩, hb⟩
  replace bo := bo.below hb bo.lt
  replace B0 := B0.trans (hb.mono B0.size)
  replace t1 : Tr w1 31 2 (.slice A3 r.length c3) r.length (rec2 r) := Tr.of_own o3
  replace t2 : Tr w1 29 1 u ks.length (ints .u64 ks) := Tr.of_own o4
  obtain ⟨A4, c4, rfl⟩ := t2.val
  clear hb o3 o4 CP
  have mo := fun i => bo.cell i
  have zo := fun i => bo.frozen i
  go_wp2_with fail
  replace t1 := (t1.set_ bo (by decide) 0 (.slice A3 r.length c3)).set_ (bo.set_ 0 (.slice A3 r.length c3)) (by decide) 1 (.slice A4 ks.length c4)
  replace t2 := (t2.set_ bo (by decide) 0 (.slice A3 r.length c3)).set_ (bo.set_ 0 (.slice A3 r.length c3)) (by decide) 1 (.slice A4 ks.length c4)
  replace B0 := (B0.setCell (p := ⟨w.heap.size + 1, 0, none⟩) (by show w.heap.size ≤ w.heap.size + 1; omega) (.slice A3 r.length c3)).setCell (p := ⟨w.heap.size + 1, 1, none⟩) (by show w.heap.size ≤ w.heap.size + 1; omega) (.slice A4 ks.length c4)
  have b9 := (bo.set_ 0 (.slice A3 r.length c3)).set_ 1 (.slice A4 ks.length c4)
  simp only [List.setIfInBounds_toArray, List.set_cons_zero, List.set_cons_succ] at b9
  clear mo zo bo
  generalize (w1.setCell ⟨w.heap.size + 1, 0, none⟩ (.slice A3 r.length c3)).setCell ⟨w.heap.size + 1, 1, none⟩ (.slice A4 ks.length c4) = w9 at *
  have m9 := fun i => b9.cell i
  refine bodyPost_ret (v := .agg #[.slice A3 r.length c3, .slice A4 ks.length c4]) (by simp [results, Tryd.results24, go_sem, m9]) rfl ⟨⟨A3, c3, A4, c4, rfl, t1, t2⟩, B0⟩
set_option linter.unusedSimpArgs false in
set_option maxRecDepth 100000 in
set_option maxHeartbeats 4000000 in
theorem sfreed_any (v0 v1 v2 v3 v4 v5 v6 v7 v8 v9 v10 v11 v12 v13 v14 v15 v16 v17 v18 v19 v21 : Value) (A5 : Option Addr) (n5 c5 : Nat) (fr : List Int) (w : World) (h5 : fr.length ≤ 1000) (t5 : Tr w 29 1 (.slice A5 n5 c5) n5 (ints .u64 fr)) :
    Calls Tryd.prog 29 #[.agg #[v0, v1, v2, v3, v4, v5, v6, v7, v8, v9, v10, v11, v12, v13, v14, v15, v16, v17, v18, v19, .slice A5 n5 c5, v21]] w fun e w' => (∃ A3 c3, e = .returned (.slice A3 fr.length c3) ∧ Tr w' 29 1 (.slice A3 fr.length c3) fr.length (ints .u64 fr)) ∧ Below w.heap.size w w' := by
  have B0 := (Below.refl w.heap.size w).alloc (Nat.le_refl _) (.cells #[v0, v1, v2, v3, v4, v5, v6, v7, v8, v9, v10, v11, v12, v13, v14, v15, v16, v17, v18, v19, .slice A5 n5 c5, v21] 51)
  have CL := hide (fun w2 (h : Sl w2 w2.heap.size (.slice A5 n5 c5) fr) => clone_any (.slice A5 n5 c5) fr w2 (by omega) h)
  replace t5 := t5.alloc (.cells #[v0, v1, v2, v3, v4, v5, v6, v7, v8, v9, v10, v11, v12, v13, v14, v15, v16, v17, v18, v19, .slice A5 n5 c5, v21] 51)
  clear h5
  go_enter Tryd.func29, Tryd.ntmps29
  go_wp2_with fail
  refine (CL.out _ t5.sl).mono ?_
  rintro e w1 ⟨⟨u, rfl, o⟩, hb⟩
  have t6 : Tr w1 29 1 u fr.length (ints .u64 fr) := Tr.of_own o
  obtain ⟨A3, c3, rfl⟩ := t6.val
  replace B0 := B0.trans (hb.mono B0.size)
  clear hb o
  go_wp2_with fail
  go_ret
  exact ⟨⟨A3, c3, rfl, t6⟩, B0⟩
end Go.Proofs.YtokcbipmocpllaaDoor

/-
  sweep.New.
-/
namespace Go.Proofs.YtokcbipmocpllaaDoor
open Go.RowKit

set_option linter.unusedSimpArgs false in
set_option maxRecDepth 100000 in
set_option maxHeartbeats 4000000 in
theorem snew_yes (s t f l p q : Int) (A : Option Addr) (n c : Nat) (r : List (Int × Int)) (v : Value) (ks : List Int) (w : World) (hn : n ≤ 1000) (hk : ks.length ≤ 1000) (hr : Reads w w.heap.size 2 A n (rec2 r)) (hs : Sl w w.heap.size v ks)
    (SZ0 : ∀ w2, Calls Tryd.prog 41 #[.agg #[.int .i64 s, .int .i64 t, .int .i64 f, .int .i64 l, .int .i64 p]] w2 fun e w' => e = .returned (.int .i64 q) ∧ Below w2.heap.size w2 w') (hq : 0 < q) :
    Calls Tryd.prog 17 #[.agg #[.int .i64 s, .int .i64 t, .int .i64 f, .int .i64 l, .int .i64 p], .agg #[.slice A n c, v]] w fun e w' => (∃ A1 c1 A4 c4, e = .returned (.agg #[.slice A1 n c1, .slice A4 ks.length c4, .int .i64 s, .int .i64 t, .int .i64 f, .int .i64 l, .int .i64 p, .int .i64 1, .int .u64 0, .slice none 0 0, .slice none 0 0, .int .i64 0, .int .i64 0, .int .i64 0, .int .i64 0, .int .i64 0, .int .i64 0, .int .i64 0, .int .u64 0, .int .i64 0, .slice none 0 0, .int .i64 0]) ∧ OwnR w' w.heap.size (.slice A1 n c1) n r ∧ Own w' w.heap.size (.slice A4 ks.length c4) ks) ∧ Below w.heap.size w w' := by
  obtain ⟨A2, c2, rfl, q1, q2, q3⟩ := hs
  have HS := hide (show Sl w w.heap.size (.slice A2 ks.length c2) ks from ⟨A2, c2, rfl, q1, q2, q3⟩)
  have CP := hide (fun w2 (h : Below w.heap.size w w2) => copied_any A n c r (.slice A2 ks.length c2) ks w2 hn hk ((hr.below h).more h.size) ((HS.out.below h).more h.size))
  have SZ := hide SZ0
  have B0 := (((Below.refl w.heap.size w).alloc (Nat.le_refl _) (.cells #[.int .i64 s, .int .i64 t, .int .i64 f, .int .i64 l, .int .i64 p] 44)).alloc (by simp only [World.size_alloc]; omega) (.cells #[.slice A n c, .slice A2 ks.length c2] 25)).alloc (by simp only [World.size_alloc]; omega) (.cells #[.slice none 0 0, .slice none 0 0, .int .i64 0, .int .i64 0, .int .i64 0, .int .i64 0, .int .i64 0, .int .i64 0, .int .u64 0, .slice none 0 0, .slice none 0 0, .int .i64 0, .int .i64 0, .int .i64 0, .int .i64 0, .int .i64 0, .int .i64 0, .int .i64 0, .int .u64 0, .int .i64 0, .slice none 0 0, .int .i64 0] 51)
  have bx := ((Blk.new w 44 #[.int .i64 s, .int .i64 t, .int .i64 f, .int .i64 l, .int .i64 p]).alloc (.cells #[.slice A n c, .slice A2 ks.length c2] 25)).alloc (.cells #[.slice none 0 0, .slice none 0 0, .int .i64 0, .int .i64 0, .int .i64 0, .int .i64 0, .int .i64 0, .int .i64 0, .int .u64 0, .slice none 0 0, .slice none 0 0, .int .i64 0, .int .i64 0, .int .i64 0, .int .i64 0, .int .i64 0, .int .i64 0, .int .i64 0, .int .u64 0, .int .i64 0, .slice none 0 0, .int .i64 0] 51)
  have by_ := (Blk.new (w.alloc (.cells #[.int .i64 s, .int .i64 t, .int .i64 f, .int .i64 l, .int .i64 p] 44)) 25 #[.slice A n c, .slice A2 ks.length c2]).alloc (.cells #[.slice none 0 0, .slice none 0 0, .int .i64 0, .int .i64 0, .int .i64 0, .int .i64 0, .int .i64 0, .int .i64 0, .int .u64 0, .slice none 0 0, .slice none 0 0, .int .i64 0, .int .i64 0, .int .i64 0, .int .i64 0, .int .i64 0, .int .i64 0, .int .i64 0, .int .u64 0, .int .i64 0, .slice none 0 0, .int .i64 0] 51)
  have bo := Blk.new ((w.alloc (.cells #[.int .i64 s, .int .i64 t, .int .i64 f, .int .i64 l, .int .i64 p] 44)).alloc (.cells #[.slice A n c, .slice A2 ks.length c2] 25)) 51 #[.slice none 0 0, .slice none 0 0, .int .i64 0, .int .i64 0, .int .i64 0, .int .i64 0, .int .i64 0, .int .i64 0, .int .u64 0, .slice none 0 0, .slice none 0 0, .int .i64 0, .int .i64 0, .int .i64 0, .int .i64 0, .int .i64 0, .int .i64 0, .int .i64 0, .int .u64 0, .int .i64 0, .slice none 0 0, .int .i64 0]
  simp only [World.size_alloc] at bo by_
  clear q1 q2 q3 hn hk hr SZ0
  go_enter Tryd.func17, Tryd.ntmps17
  go_wp2_with fail
  generalize ((w.alloc (.cells #[.int .i64 s, .int .i64 t, .int .i64 f, .int .i64 l, .int .i64 p] 44)).alloc (.cells #[.slice A n c, .slice A2 ks.length c2] 25)).alloc (.cells #[.slice none 0 0, .slice none 0 0, .int .i64 0, .int .i64 0, .int .i64 0, .int .i64 0, .int .i64 0, .int .i64 0, .int .u64 0, .slice none 0 0, .slice none 0 0, .int .i64 0, .int .i64 0, .int .i64 0, .int .i64 0, .int .i64 0, .int .i64 0, .int .i64 0, .int .u64 0, .int .i64 0, .slice none 0 0, .int .i64 0] 51) = w0 at *
  refine wp_region_heldZ [5] (fun w' => w'.cell? ⟨w.heap.size, 0, none⟩ = some (.int .i64 s) ∧ w'.cell? ⟨w.heap.size, 1, none⟩ = some (.int .i64 t) ∧ w'.cell? ⟨w.heap.size, 2, none⟩ = some (.int .i64 f) ∧ w'.cell? ⟨w.heap.size, 3, none⟩ = some (.int .i64 l) ∧ w'.cell? ⟨w.heap.size, 4, none⟩ = some (.int .i64 p) ∧ w'.cell? ⟨w.heap.size + 1, 0, none⟩ = some (.slice A n c) ∧ w'.cell? ⟨w.heap.size + 1, 1, none⟩ = some (.slice A2 ks.length c2)) (by kernel_rfl) (by exact ⟨bx.cell 0, bx.cell 1, bx.cell 2, bx.cell 3, bx.cell 4, by_.cell 0, by_.cell 1⟩) (fun hHeld => ?_)
  replace bx := bx.drew
  replace by_ := by_.drew
  replace bo := bo.drew
  replace B0 := B0.drew
  generalize w0.drew = wd at *
  refine' wpAnyZ_takeA (i := 0) (v := ?_) (opAt rfl) (by kernel_rfl) (by kernel_rfl) (by kernel_rfl) (by kernel_rfl) (fun _ _ _ h => h) (by assumption) (by rfl) (fun w hSw => ?_) ?_
  rotate_left
  · (try dsimp only at hSw); go_simp; (try with_reducible rfl)
  try simp only [Act.put, List.setIfInBounds_toArray, List.set_cons_zero, List.set_cons_succ]
  refine' wpAnyZ_takeA (i := 2) (v := ?_) (opAt rfl) (by kernel_rfl) (by kernel_rfl) (by kernel_rfl) (by kernel_rfl) (fun _ _ _ h => h) (by assumption) (by rfl) (fun w hSw => ?_) ?_
  rotate_left
  · (try dsimp only at hSw); go_simp; (try with_reducible rfl)
  try simp only [Act.put, List.setIfInBounds_toArray, List.set_cons_zero, List.set_cons_succ]
  refine wpAnyZ_ready (rs := [1, 4]) (by kernel_rfl) (by simp) ?_
  refine AllReadyZ.cons (opAt rfl) (fun K hK => ?_) ?_
  · skip
    go_simp
    refine (CP.out _ B0).mono ?_
    rintro e w1 ⟨⟨A1, c1, u4, rfl, r3, o4⟩, hb1⟩
    have r3 := own_mono r3 B0.size
    have o4 := own_mono o4 B0.size
    obtain ⟨A4, c4, rfl⟩ := Own.val o4
    replace bx := bx.below hb1 bx.lt
    replace by_ := by_.below hb1 by_.lt
    replace bo := bo.below hb1 bo.lt
    replace B0 := B0.trans (hb1.mono B0.size)
    clear hb1
    try go_wp2_with fail
    refine hK.out _ _ (by exact ⟨bx.cell 0, bx.cell 1, bx.cell 2, bx.cell 3, bx.cell 4, by_.cell 0, by_.cell 1⟩) (fun hHeld => ?_)
    clear hK K
    try simp only [Act.put, List.setIfInBounds_toArray, List.set_cons_zero, List.set_cons_succ]
    refine' wpAnyZ_takeA (i := 3) (v := ?_) (opAt rfl) (by kernel_rfl) (by kernel_rfl) (by kernel_rfl) (by kernel_rfl) (fun _ _ _ h => h) (by assumption) (by rfl) (fun w hSw => ?_) ?_
    rotate_left
    · (try dsimp only at hSw); go_simp; (try with_reducible rfl)
    try simp only [Act.put, List.setIfInBounds_toArray, List.set_cons_zero, List.set_cons_succ]
    refine wpAnyZ_ready (rs := [4]) (by kernel_rfl) (by simp) ?_
    refine AllReadyZ.cons (opAt rfl) (fun K hK => ?_) ?_
    · skip
      go_simp
      have HG5 := hide (show w.heap.size + 3 ≤ w1.heap.size by have := bo.lt; omega)
      have bv := Blk.new w1 51 #[.slice none 0 0, .slice none 0 0, .int .i64 0, .int .i64 0, .int .i64 0, .int .i64 0, .int .i64 0, .int .i64 0, .int .u64 0, .slice none 0 0, .slice none 0 0, .int .i64 0, .int .i64 0, .int .i64 0, .int .i64 0, .int .i64 0, .int .i64 0, .int .i64 0, .int .u64 0, .int .i64 0, .slice none 0 0, .int .i64 0]
      replace bx := bx.alloc (.cells #[.slice none 0 0, .slice none 0 0, .int .i64 0, .int .i64 0, .int .i64 0, .int .i64 0, .int .i64 0, .int .i64 0, .int .u64 0, .slice none 0 0, .slice none 0 0, .int .i64 0, .int .i64 0, .int .i64 0, .int .i64 0, .int .i64 0, .int .i64 0, .int .i64 0, .int .u64 0, .int .i64 0, .slice none 0 0, .int .i64 0] 51)
      replace by_ := by_.alloc (.cells #[.slice none 0 0, .slice none 0 0, .int .i64 0, .int .i64 0, .int .i64 0, .int .i64 0, .int .i64 0, .int .i64 0, .int .u64 0, .slice none 0 0, .slice none 0 0, .int .i64 0, .int .i64 0, .int .i64 0, .int .i64 0, .int .i64 0, .int .i64 0, .int .i64 0, .int .u64 0, .int .i64 0, .slice none 0 0, .int .i64 0] 51)
      replace bo := bo.alloc (.cells #[.slice none 0 0, .slice none 0 0, .int .i64 0, .int .i64 0, .int .i64 0, .int .i64 0, .int .i64 0, .int .i64 0, .int .u64 0, .slice none 0 0, .slice none 0 0, .int .i64 0, .int .i64 0, .int .i64 0, .int .i64 0, .int .i64 0, .int .i64 0, .int .i64 0, .int .u64 0, .int .i64 0, .slice none 0 0, .int .i64 0] 51)
      replace r3 := World.ownsRow.alloc r3 (.cells #[.slice none 0 0, .slice none 0 0, .int .i64 0, .int .i64 0, .int .i64 0, .int .i64 0, .int .i64 0, .int .i64 0, .int .u64 0, .slice none 0 0, .slice none 0 0, .int .i64 0, .int .i64 0, .int .i64 0, .int .i64 0, .int .i64 0, .int .i64 0, .int .i64 0, .int .u64 0, .int .i64 0, .slice none 0 0, .int .i64 0] 51)
      replace o4 := World.ownsRow.alloc o4 (.cells #[.slice none 0 0, .slice none 0 0, .int .i64 0, .int .i64 0, .int .i64 0, .int .i64 0, .int .i64 0, .int .i64 0, .int .u64 0, .slice none 0 0, .slice none 0 0, .int .i64 0, .int .i64 0, .int .i64 0, .int .i64 0, .int .i64 0, .int .i64 0, .int .i64 0, .int .u64 0, .int .i64 0, .slice none 0 0, .int .i64 0] 51)
      replace B0 := B0.alloc B0.size (.cells #[.slice none 0 0, .slice none 0 0, .int .i64 0, .int .i64 0, .int .i64 0, .int .i64 0, .int .i64 0, .int .i64 0, .int .u64 0, .slice none 0 0, .slice none 0 0, .int .i64 0, .int .i64 0, .int .i64 0, .int .i64 0, .int .i64 0, .int .i64 0, .int .i64 0, .int .u64 0, .int .i64 0, .slice none 0 0, .int .i64 0] 51)
      generalize w1.heap.size = g5 at *
      generalize w1.alloc (.cells #[.slice none 0 0, .slice none 0 0, .int .i64 0, .int .i64 0, .int .i64 0, .int .i64 0, .int .i64 0, .int .i64 0, .int .u64 0, .slice none 0 0, .slice none 0 0, .int .i64 0, .int .i64 0, .int .i64 0, .int .i64 0, .int .i64 0, .int .i64 0, .int .i64 0, .int .u64 0, .int .i64 0, .slice none 0 0, .int .i64 0] 51) = w2 at *
      refine hK.out _ _ (by exact ⟨bx.cell 0, bx.cell 1, bx.cell 2, bx.cell 3, bx.cell 4, by_.cell 0, by_.cell 1⟩) (fun hHeld => ?_)
      clear hK K
      try simp only [Act.put, List.setIfInBounds_toArray, List.set_cons_zero, List.set_cons_succ]
      refine wpAnyZ_ready (rs := [5]) (by kernel_rfl) (by simp) ?_
      refine AllReadyZ.last (opAt rfl) (by kernel_rfl) (fun K hK => ?_) ?_
      · skip
        refine wp_store_mid 51 (.tmp 5) (.tmp 9) rfl g5 0 #[.slice A1 n c1, .slice A4 ks.length c4, .int .i64 s, .int .i64 t, .int .i64 f, .int .i64 l, .int .i64 p, .int .i64 0, .int .u64 0, .slice none 0 0, .slice none 0 0, .int .i64 0, .int .i64 0, .int .i64 0, .int .i64 0, .int .i64 0, .int .i64 0, .int .i64 0, .int .u64 0, .int .i64 0, .slice none 0 0, .int .i64 0] (by rfl) (by rfl) (bv.there rfl) (by kernel_rfl) (by kernel_rfl) ?_
        refine hK.out _ _ ?_
        clear hK K
        try simp only [Act.put, List.setIfInBounds_toArray, List.set_cons_zero, List.set_cons_succ]
        refine wpAnyZ_done (by kernel_rfl) ?_ _
        replace r3 := (show World.ownsRow (w2.setCells g5 0 [.slice A1 n c1, .slice A4 ks.length c4, .int .i64 s, .int .i64 t, .int .i64 f, .int .i64 l, .int .i64 p, .int .i64 0, .int .u64 0, .slice none 0 0, .slice none 0 0, .int .i64 0, .int .i64 0, .int .i64 0, .int .i64 0, .int .i64 0, .int .i64 0, .int .i64 0, .int .u64 0, .int .i64 0, .slice none 0 0, .int .i64 0]) _ _ _ _ _ _ from by rw [putL_eq]; exact own_putT (by decide) _ _ _ 0 bv r3)
        replace o4 := (show World.ownsRow (w2.setCells g5 0 [.slice A1 n c1, .slice A4 ks.length c4, .int .i64 s, .int .i64 t, .int .i64 f, .int .i64 l, .int .i64 p, .int .i64 0, .int .u64 0, .slice none 0 0, .slice none 0 0, .int .i64 0, .int .i64 0, .int .i64 0, .int .i64 0, .int .i64 0, .int .i64 0, .int .i64 0, .int .u64 0, .int .i64 0, .slice none 0 0, .int .i64 0]) _ _ _ _ _ _ from by rw [putL_eq]; exact own_putT (by decide) _ _ _ 0 bv o4)
        replace bx := (show Blk (w2.setCells g5 0 [.slice A1 n c1, .slice A4 ks.length c4, .int .i64 s, .int .i64 t, .int .i64 f, .int .i64 l, .int .i64 p, .int .i64 0, .int .u64 0, .slice none 0 0, .slice none 0 0, .int .i64 0, .int .i64 0, .int .i64 0, .int .i64 0, .int .i64 0, .int .i64 0, .int .i64 0, .int .u64 0, .int .i64 0, .slice none 0 0, .int .i64 0]) _ _ _ from by rw [putL_eq]; exact Blk.offL (by have := HG5.out; omega) _ _ 0 bx)
        replace bo := (show Blk (w2.setCells g5 0 [.slice A1 n c1, .slice A4 ks.length c4, .int .i64 s, .int .i64 t, .int .i64 f, .int .i64 l, .int .i64 p, .int .i64 0, .int .u64 0, .slice none 0 0, .slice none 0 0, .int .i64 0, .int .i64 0, .int .i64 0, .int .i64 0, .int .i64 0, .int .i64 0, .int .i64 0, .int .u64 0, .int .i64 0, .slice none 0 0, .int .i64 0]) _ _ _ from by rw [putL_eq]; exact Blk.offL (by have := HG5.out; omega) _ _ 0 bo)
        replace B0 := (show Below w.heap.size w (w2.setCells g5 0 [.slice A1 n c1, .slice A4 ks.length c4, .int .i64 s, .int .i64 t, .int .i64 f, .int .i64 l, .int .i64 p, .int .i64 0, .int .u64 0, .slice none 0 0, .slice none 0 0, .int .i64 0, .int .i64 0, .int .i64 0, .int .i64 0, .int .i64 0, .int .i64 0, .int .i64 0, .int .u64 0, .int .i64 0, .slice none 0 0, .int .i64 0]) from by rw [putL_eq]; exact Below.putL (by have := HG5.out; omega) _ _ 0 B0)
        replace bv := (show Blk (w2.setCells g5 0 [.slice A1 n c1, .slice A4 ks.length c4, .int .i64 s, .int .i64 t, .int .i64 f, .int .i64 l, .int .i64 p, .int .i64 0, .int .u64 0, .slice none 0 0, .slice none 0 0, .int .i64 0, .int .i64 0, .int .i64 0, .int .i64 0, .int .i64 0, .int .i64 0, .int .i64 0, .int .u64 0, .int .i64 0, .slice none 0 0, .int .i64 0]) g5 51 #[.slice A1 n c1, .slice A4 ks.length c4, .int .i64 s, .int .i64 t, .int .i64 f, .int .i64 l, .int .i64 p, .int .i64 0, .int .u64 0, .slice none 0 0, .slice none 0 0, .int .i64 0, .int .i64 0, .int .i64 0, .int .i64 0, .int .i64 0, .int .i64 0, .int .i64 0, .int .u64 0, .int .i64 0, .slice none 0 0, .int .i64 0] from by rw [putL_eq]; have h9 := Blk.putL [.slice A1 n c1, .slice A4 ks.length c4, .int .i64 s, .int .i64 t, .int .i64 f, .int .i64 l, .int .i64 p, .int .i64 0, .int .u64 0, .slice none 0 0, .slice none 0 0, .int .i64 0, .int .i64 0, .int .i64 0, .int .i64 0, .int .i64 0, .int .i64 0, .int .i64 0, .int .u64 0, .int .i64 0, .slice none 0 0, .int .i64 0] _ _ 0 bv; simpa only [setL, List.setIfInBounds_toArray, List.set_cons_zero, List.set_cons_succ] using h9)
        clear by_ hHeld
        generalize w2.setCells g5 0 [.slice A1 n c1, .slice A4 ks.length c4, .int .i64 s, .int .i64 t, .int .i64 f, .int .i64 l, .int .i64 p, .int .i64 0, .int .u64 0, .slice none 0 0, .slice none 0 0, .int .i64 0, .int .i64 0, .int .i64 0, .int .i64 0, .int .i64 0, .int .i64 0, .int .i64 0, .int .u64 0, .int .i64 0, .slice none 0 0, .int .i64 0] = w9 at *
        have mx := fun i => bx.cell i
        go_wp2_with fail
        refine (SZ.out _).mono ?_
        rintro e w10 ⟨rfl, hb1⟩
        replace r3 := own_below r3 hb1
        replace o4 := own_below o4 hb1
        replace bo := bo.below hb1 bo.lt
        replace bv := bv.below hb1 bv.lt
        replace B0 := B0.trans (hb1.mono B0.size)
        clear hb1 mx bx
        have hm7 := bv.cell 7
        have hz7 := bv.frozen 7
        have bv2 := bv.set_ 7 (.int .i64 1)
        have bo2 := bo.far (p := ⟨g5, 7, none⟩) (by have := HG5.out; show w.heap.size + 1 + 1 ≠ g5; omega) (.int .i64 1)
        skip
        go_wp2_with (first | (refine wpList_load_mid rfl 51 (.tmp 5) rfl g5 0 (by rfl) [.slice A1 n c1, .slice A4 ks.length c4, .int .i64 s, .int .i64 t, .int .i64 f, .int .i64 l, .int .i64 p, .int .i64 1, .int .u64 0, .slice none 0 0, .slice none 0 0, .int .i64 0, .int .i64 0, .int .i64 0, .int .i64 0, .int .i64 0, .int .i64 0, .int .i64 0, .int .u64 0, .int .i64 0, .slice none 0 0, .int .i64 0] _ bv2.range Tryd.underlying51 rfl (by kernel_rfl) ?_) | (refine wpList_store_mid rfl 51 (.tmp 4) (.tmp 14) rfl (w.heap.size + 1 + 1) 0 #[.slice A1 n c1, .slice A4 ks.length c4, .int .i64 s, .int .i64 t, .int .i64 f, .int .i64 l, .int .i64 p, .int .i64 1, .int .u64 0, .slice none 0 0, .slice none 0 0, .int .i64 0, .int .i64 0, .int .i64 0, .int .i64 0, .int .i64 0, .int .i64 0, .int .i64 0, .int .u64 0, .int .i64 0, .slice none 0 0, .int .i64 0] (by rfl) (by rfl) (bo2.there rfl) (by kernel_rfl) (by kernel_rfl) ?_))
        replace r3 := own_set1 (j := 7) r3 bv (by decide) (.int .i64 1)
        replace o4 := own_set1 (j := 7) o4 bv (by decide) (.int .i64 1)
        replace B0 := B0.setCell (p := ⟨g5, 7, none⟩) (show w.heap.size ≤ g5 by have := HG5.out; omega) (.int .i64 1)
        replace r3 := (show World.ownsRow ((w10.setCell ⟨g5, 7, none⟩ (.int .i64 1)).setCells (w.heap.size + 1 + 1) 0 [.slice A1 n c1, .slice A4 ks.length c4, .int .i64 s, .int .i64 t, .int .i64 f, .int .i64 l, .int .i64 p, .int .i64 1, .int .u64 0, .slice none 0 0, .slice none 0 0, .int .i64 0, .int .i64 0, .int .i64 0, .int .i64 0, .int .i64 0, .int .i64 0, .int .i64 0, .int .u64 0, .int .i64 0, .slice none 0 0, .int .i64 0]) _ _ _ _ _ _ from by rw [putL_eq]; exact own_putT (by decide) _ _ _ 0 bo2 r3)
        replace o4 := (show World.ownsRow ((w10.setCell ⟨g5, 7, none⟩ (.int .i64 1)).setCells (w.heap.size + 1 + 1) 0 [.slice A1 n c1, .slice A4 ks.length c4, .int .i64 s, .int .i64 t, .int .i64 f, .int .i64 l, .int .i64 p, .int .i64 1, .int .u64 0, .slice none 0 0, .slice none 0 0, .int .i64 0, .int .i64 0, .int .i64 0, .int .i64 0, .int .i64 0, .int .i64 0, .int .i64 0, .int .u64 0, .int .i64 0, .slice none 0 0, .int .i64 0]) _ _ _ _ _ _ from by rw [putL_eq]; exact own_putT (by decide) _ _ _ 0 bo2 o4)
        replace B0 := (show Below w.heap.size w ((w10.setCell ⟨g5, 7, none⟩ (.int .i64 1)).setCells (w.heap.size + 1 + 1) 0 [.slice A1 n c1, .slice A4 ks.length c4, .int .i64 s, .int .i64 t, .int .i64 f, .int .i64 l, .int .i64 p, .int .i64 1, .int .u64 0, .slice none 0 0, .slice none 0 0, .int .i64 0, .int .i64 0, .int .i64 0, .int .i64 0, .int .i64 0, .int .i64 0, .int .i64 0, .int .u64 0, .int .i64 0, .slice none 0 0, .int .i64 0]) from by rw [putL_eq]; exact Below.putL (by omega) _ _ 0 B0)
        have bo3 := (show Blk ((w10.setCell ⟨g5, 7, none⟩ (.int .i64 1)).setCells (w.heap.size + 1 + 1) 0 [.slice A1 n c1, .slice A4 ks.length c4, .int .i64 s, .int .i64 t, .int .i64 f, .int .i64 l, .int .i64 p, .int .i64 1, .int .u64 0, .slice none 0 0, .slice none 0 0, .int .i64 0, .int .i64 0, .int .i64 0, .int .i64 0, .int .i64 0, .int .i64 0, .int .i64 0, .int .u64 0, .int .i64 0, .slice none 0 0, .int .i64 0]) (w.heap.size + 1 + 1) 51 #[.slice A1 n c1, .slice A4 ks.length c4, .int .i64 s, .int .i64 t, .int .i64 f, .int .i64 l, .int .i64 p, .int .i64 1, .int .u64 0, .slice none 0 0, .slice none 0 0, .int .i64 0, .int .i64 0, .int .i64 0, .int .i64 0, .int .i64 0, .int .i64 0, .int .i64 0, .int .u64 0, .int .i64 0, .slice none 0 0, .int .i64 0] from by rw [putL_eq]; have h9 := Blk.putL [.slice A1 n c1, .slice A4 ks.length c4, .int .i64 s, .int .i64 t, .int .i64 f, .int .i64 l, .int .i64 p, .int .i64 1, .int .u64 0, .slice none 0 0, .slice none 0 0, .int .i64 0, .int .i64 0, .int .i64 0, .int .i64 0, .int .i64 0, .int .i64 0, .int .i64 0, .int .u64 0, .int .i64 0, .slice none 0 0, .int .i64 0] _ _ 0 bo2; simpa only [setL, List.setIfInBounds_toArray, List.set_cons_zero, List.set_cons_succ] using h9)
        generalize (w10.setCell ⟨g5, 7, none⟩ (.int .i64 1)).setCells (w.heap.size + 1 + 1) 0 [.slice A1 n c1, .slice A4 ks.length c4, .int .i64 s, .int .i64 t, .int .i64 f, .int .i64 l, .int .i64 p, .int .i64 1, .int .u64 0, .slice none 0 0, .slice none 0 0, .int .i64 0, .int .i64 0, .int .i64 0, .int .i64 0, .int .i64 0, .int .i64 0, .int .i64 0, .int .u64 0, .int .i64 0, .slice none 0 0, .int .i64 0] = w12 at *
        have hres : (loadVar 51 ⟨w.heap.size + 1 + 1, 0, none⟩).run Tryd.prog w12 = .ok (.agg #[.slice A1 n c1, .slice A4 ks.length c4, .int .i64 s, .int .i64 t, .int .i64 f, .int .i64 l, .int .i64 p, .int .i64 1, .int .u64 0, .slice none 0 0, .slice none 0 0, .int .i64 0, .int .i64 0, .int .i64 0, .int .i64 0, .int .i64 0, .int .i64 0, .int .i64 0, .int .u64 0, .int .i64 0, .slice none 0 0, .int .i64 0]) w12 := run_loadVar_mid w12 _ 0 _ [.slice A1 n c1, .slice A4 ks.length c4, .int .i64 s, .int .i64 t, .int .i64 f, .int .i64 l, .int .i64 p, .int .i64 1, .int .u64 0, .slice none 0 0, .slice none 0 0, .int .i64 0, .int .i64 0, .int .i64 0, .int .i64 0, .int .i64 0, .int .i64 0, .int .i64 0, .int .u64 0, .int .i64 0, .slice none 0 0, .int .i64 0] _ bo3.range Tryd.underlying51 rfl (by kernel_rfl)
        refine bodyPost_ret (v := .agg #[.slice A1 n c1, .slice A4 ks.length c4, .int .i64 s, .int .i64 t, .int .i64 f, .int .i64 l, .int .i64 p, .int .i64 1, .int .u64 0, .slice none 0 0, .slice none 0 0, .int .i64 0, .int .i64 0, .int .i64 0, .int .i64 0, .int .i64 0, .int .i64 0, .int .i64 0, .int .u64 0, .int .i64 0, .slice none 0 0, .int .i64 0]) (by simp [results, Tryd.results17, Act.put, asAddr, hres]) rfl ⟨⟨A1, c1, A4, c4, rfl, r3, o4⟩, B0⟩
      exact AllReadyZ.nil
    exact AllReadyZ.nil
  refine AllReadyZ.cons (opAt rfl) (fun K hK => ?_) ?_
  · skip
    go_simp
    have HG5 := hide (show w.heap.size + 3 ≤ wd.heap.size by have := bo.lt; omega)
    have bv := Blk.new wd 51 #[.slice none 0 0, .slice none 0 0, .int .i64 0, .int .i64 0, .int .i64 0, .int .i64 0, .int .i64 0, .int .i64 0, .int .u64 0, .slice none 0 0, .slice none 0 0, .int .i64 0, .int .i64 0, .int .i64 0, .int .i64 0, .int .i64 0, .int .i64 0, .int .i64 0, .int .u64 0, .int .i64 0, .slice none 0 0, .int .i64 0]
    replace bx := bx.alloc (.cells #[.slice none 0 0, .slice none 0 0, .int .i64 0, .int .i64 0, .int .i64 0, .int .i64 0, .int .i64 0, .int .i64 0, .int .u64 0, .slice none 0 0, .slice none 0 0, .int .i64 0, .int .i64 0, .int .i64 0, .int .i64 0, .int .i64 0, .int .i64 0, .int .i64 0, .int .u64 0, .int .i64 0, .slice none 0 0, .int .i64 0] 51)
    replace by_ := by_.alloc (.cells #[.slice none 0 0, .slice none 0 0, .int .i64 0, .int .i64 0, .int .i64 0, .int .i64 0, .int .i64 0, .int .i64 0, .int .u64 0, .slice none 0 0, .slice none 0 0, .int .i64 0, .int .i64 0, .int .i64 0, .int .i64 0, .int .i64 0, .int .i64 0, .int .i64 0, .int .u64 0, .int .i64 0, .slice none 0 0, .int .i64 0] 51)
    replace bo := bo.alloc (.cells #[.slice none 0 0, .slice none 0 0, .int .i64 0, .int .i64 0, .int .i64 0, .int .i64 0, .int .i64 0, .int .i64 0, .int .u64 0, .slice none 0 0, .slice none 0 0, .int .i64 0, .int .i64 0, .int .i64 0, .int .i64 0, .int .i64 0, .int .i64 0, .int .i64 0, .int .u64 0, .int .i64 0, .slice none 0 0, .int .i64 0] 51)
    replace B0 := B0.alloc B0.size (.cells #[.slice none 0 0, .slice none 0 0, .int .i64 0, .int .i64 0, .int .i64 0, .int .i64 0, .int .i64 0, .int .i64 0, .int .u64 0, .slice none 0 0, .slice none 0 0, .int .i64 0, .int .i64 0, .int .i64 0, .int .i64 0, .int .i64 0, .int .i64 0, .int .i64 0, .int .u64 0, .int .i64 0, .slice none 0 0, .int .i64 0] 51)
    generalize wd.heap.size = g5 at *
    generalize wd.alloc (.cells #[.slice none 0 0, .slice none 0 0, .int .i64 0, .int .i64 0, .int .i64 0, .int .i64 0, .int .i64 0, .int .i64 0, .int .u64 0, .slice none 0 0, .slice none 0 0, .int .i64 0, .int .i64 0, .int .i64 0, .int .i64 0, .int .i64 0, .int .i64 0, .int .i64 0, .int .u64 0, .int .i64 0, .slice none 0 0, .int .i64 0] 51) = w1 at *
    refine hK.out _ _ (by exact ⟨bx.cell 0, bx.cell 1, bx.cell 2, bx.cell 3, bx.cell 4, by_.cell 0, by_.cell 1⟩) (fun hHeld => ?_)
    clear hK K
    try simp only [Act.put, List.setIfInBounds_toArray, List.set_cons_zero, List.set_cons_succ]
    refine wpAnyZ_ready (rs := [1]) (by kernel_rfl) (by simp) ?_
    refine AllReadyZ.cons (opAt rfl) (fun K hK => ?_) ?_
    · skip
      go_simp
      refine (CP.out _ B0).mono ?_
      rintro e w2 ⟨⟨A1, c1, u4, rfl, r3, o4⟩, hb1⟩
      have r3 := own_mono r3 B0.size
      have o4 := own_mono o4 B0.size
      obtain ⟨A4, c4, rfl⟩ := Own.val o4
      replace bv := bv.below hb1 bv.lt
      replace bx := bx.below hb1 bx.lt
      replace by_ := by_.below hb1 by_.lt
      replace bo := bo.below hb1 bo.lt
      replace B0 := B0.trans (hb1.mono B0.size)
      clear hb1
      try go_wp2_with fail
      refine hK.out _ _ (by exact ⟨bx.cell 0, bx.cell 1, bx.cell 2, bx.cell 3, bx.cell 4, by_.cell 0, by_.cell 1⟩) (fun hHeld => ?_)
      clear hK K
      try simp only [Act.put, List.setIfInBounds_toArray, List.set_cons_zero, List.set_cons_succ]
      refine' wpAnyZ_takeA (i := 3) (v := ?_) (opAt rfl) (by kernel_rfl) (by kernel_rfl) (by kernel_rfl) (by kernel_rfl) (fun _ _ _ h => h) (by assumption) (by rfl) (fun w hSw => ?_) ?_
      rotate_left
      · (try dsimp only at hSw); go_simp; (try with_reducible rfl)
      try simp only [Act.put, List.setIfInBounds_toArray, List.set_cons_zero, List.set_cons_succ]
      refine wpAnyZ_ready (rs := [5]) (by kernel_rfl) (by simp) ?_
      refine AllReadyZ.last (opAt rfl) (by kernel_rfl) (fun K hK => ?_) ?_
      · skip
        refine wp_store_mid 51 (.tmp 5) (.tmp 9) rfl g5 0 #[.slice A1 n c1, .slice A4 ks.length c4, .int .i64 s, .int .i64 t, .int .i64 f, .int .i64 l, .int .i64 p, .int .i64 0, .int .u64 0, .slice none 0 0, .slice none 0 0, .int .i64 0, .int .i64 0, .int .i64 0, .int .i64 0, .int .i64 0, .int .i64 0, .int .i64 0, .int .u64 0, .int .i64 0, .slice none 0 0, .int .i64 0] (by rfl) (by rfl) (bv.there rfl) (by kernel_rfl) (by kernel_rfl) ?_
        refine hK.out _ _ ?_
        clear hK K
        try simp only [Act.put, List.setIfInBounds_toArray, List.set_cons_zero, List.set_cons_succ]
        refine wpAnyZ_done (by kernel_rfl) ?_ _
        replace r3 := (show World.ownsRow (w2.setCells g5 0 [.slice A1 n c1, .slice A4 ks.length c4, .int .i64 s, .int .i64 t, .int .i64 f, .int .i64 l, .int .i64 p, .int .i64 0, .int .u64 0, .slice none 0 0, .slice none 0 0, .int .i64 0, .int .i64 0, .int .i64 0, .int .i64 0, .int .i64 0, .int .i64 0, .int .i64 0, .int .u64 0, .int .i64 0, .slice none 0 0, .int .i64 0]) _ _ _ _ _ _ from by rw [putL_eq]; exact own_putT (by decide) _ _ _ 0 bv r3)
        replace o4 := (show World.ownsRow (w2.setCells g5 0 [.slice A1 n c1, .slice A4 ks.length c4, .int .i64 s, .int .i64 t, .int .i64 f, .int .i64 l, .int .i64 p, .int .i64 0, .int .u64 0, .slice none 0 0, .slice none 0 0, .int .i64 0, .int .i64 0, .int .i64 0, .int .i64 0, .int .i64 0, .int .i64 0, .int .i64 0, .int .u64 0, .int .i64 0, .slice none 0 0, .int .i64 0]) _ _ _ _ _ _ from by rw [putL_eq]; exact own_putT (by decide) _ _ _ 0 bv o4)
        replace bx := (show Blk (w2.setCells g5 0 [.slice A1 n c1, .slice A4 ks.length c4, .int .i64 s, .int .i64 t, .int .i64 f, .int .i64 l, .int .i64 p, .int .i64 0, .int .u64 0, .slice none 0 0, .slice none 0 0, .int .i64 0, .int .i64 0, .int .i64 0, .int .i64 0, .int .i64 0, .int .i64 0, .int .i64 0, .int .u64 0, .int .i64 0, .slice none 0 0, .int .i64 0]) _ _ _ from by rw [putL_eq]; exact Blk.offL (by have := HG5.out; omega) _ _ 0 bx)
        replace bo := (show Blk (w2.setCells g5 0 [.slice A1 n c1, .slice A4 ks.length c4, .int .i64 s, .int .i64 t, .int .i64 f, .int .i64 l, .int .i64 p, .int .i64 0, .int .u64 0, .slice none 0 0, .slice none 0 0, .int .i64 0, .int .i64 0, .int .i64 0, .int .i64 0, .int .i64 0, .int .i64 0, .int .i64 0, .int .u64 0, .int .i64 0, .slice none 0 0, .int .i64 0]) _ _ _ from by rw [putL_eq]; exact Blk.offL (by have := HG5.out; omega) _ _ 0 bo)
        replace B0 := (show Below w.heap.size w (w2.setCells g5 0 [.slice A1 n c1, .slice A4 ks.length c4, .int .i64 s, .int .i64 t, .int .i64 f, .int .i64 l, .int .i64 p, .int .i64 0, .int .u64 0, .slice none 0 0, .slice none 0 0, .int .i64 0, .int .i64 0, .int .i64 0, .int .i64 0, .int .i64 0, .int .i64 0, .int .i64 0, .int .u64 0, .int .i64 0, .slice none 0 0, .int .i64 0]) from by rw [putL_eq]; exact Below.putL (by have := HG5.out; omega) _ _ 0 B0)
        replace bv := (show Blk (w2.setCells g5 0 [.slice A1 n c1, .slice A4 ks.length c4, .int .i64 s, .int .i64 t, .int .i64 f, .int .i64 l, .int .i64 p, .int .i64 0, .int .u64 0, .slice none 0 0, .slice none 0 0, .int .i64 0, .int .i64 0, .int .i64 0, .int .i64 0, .int .i64 0, .int .i64 0, .int .i64 0, .int .u64 0, .int .i64 0, .slice none 0 0, .int .i64 0]) g5 51 #[.slice A1 n c1, .slice A4 ks.length c4, .int .i64 s, .int .i64 t, .int .i64 f, .int .i64 l, .int .i64 p, .int .i64 0, .int .u64 0, .slice none 0 0, .slice none 0 0, .int .i64 0, .int .i64 0, .int .i64 0, .int .i64 0, .int .i64 0, .int .i64 0, .int .i64 0, .int .u64 0, .int .i64 0, .slice none 0 0, .int .i64 0] from by rw [putL_eq]; have h9 := Blk.putL [.slice A1 n c1, .slice A4 ks.length c4, .int .i64 s, .int .i64 t, .int .i64 f, .int .i64 l, .int .i64 p, .int .i64 0, .int .u64 0, .slice none 0 0, .slice none 0 0, .int .i64 0, .int .i64 0, .int .i64 0, .int .i64 0, .int .i64 0, .int .i64 0, .int .i64 0, .int .u64 0, .int .i64 0, .slice none 0 0, .int .i64 0] _ _ 0 bv; simpa only [setL, List.setIfInBounds_toArray, List.set_cons_zero, List.set_cons_succ] using h9)
        clear by_ hHeld
        generalize w2.setCells g5 0 [.slice A1 n c1, .slice A4 ks.length c4, .int .i64 s, .int .i64 t, .int .i64 f, .int .i64 l, .int .i64 p, .int .i64 0, .int .u64 0, .slice none 0 0, .slice none 0 0, .int .i64 0, .int .i64 0, .int .i64 0, .int .i64 0, .int .i64 0, .int .i64 0, .int .i64 0, .int .u64 0, .int .i64 0, .slice none 0 0, .int .i64 0] = w9 at *
        have mx := fun i => bx.cell i
        go_wp2_with fail
        refine (SZ.out _).mono ?_
        rintro e w10 ⟨rfl, hb1⟩
        replace r3 := own_below r3 hb1
        replace o4 := own_below o4 hb1
        replace bo := bo.below hb1 bo.lt
        replace bv := bv.below hb1 bv.lt
        replace B0 := B0.trans (hb1.mono B0.size)
        clear hb1 mx bx
        have hm7 := bv.cell 7
        have hz7 := bv.frozen 7
        have bv2 := bv.set_ 7 (.int .i64 1)
        have bo2 := bo.far (p := ⟨g5, 7, none⟩) (by have := HG5.out; show w.heap.size + 1 + 1 ≠ g5; omega) (.int .i64 1)
        skip
        go_wp2_with (first | (refine wpList_load_mid rfl 51 (.tmp 5) rfl g5 0 (by rfl) [.slice A1 n c1, .slice A4 ks.length c4, .int .i64 s, .int .i64 t, .int .i64 f, .int .i64 l, .int .i64 p, .int .i64 1, .int .u64 0, .slice none 0 0, .slice none 0 0, .int .i64 0, .int .i64 0, .int .i64 0, .int .i64 0, .int .i64 0, .int .i64 0, .int .i64 0, .int .u64 0, .int .i64 0, .slice none 0 0, .int .i64 0] _ bv2.range Tryd.underlying51 rfl (by kernel_rfl) ?_) | (refine wpList_store_mid rfl 51 (.tmp 4) (.tmp 14) rfl (w.heap.size + 1 + 1) 0 #[.slice A1 n c1, .slice A4 ks.length c4, .int .i64 s, .int .i64 t, .int .i64 f, .int .i64 l, .int .i64 p, .int .i64 1, .int .u64 0, .slice none 0 0, .slice none 0 0, .int .i64 0, .int .i64 0, .int .i64 0, .int .i64 0, .int .i64 0, .int .i64 0, .int .i64 0, .int .u64 0, .int .i64 0, .slice none 0 0, .int .i64 0] (by rfl) (by rfl) (bo2.there rfl) (by kernel_rfl) (by kernel_rfl) ?_))
        replace r3 := own_set1 (j := 7) r3 bv (by decide) (.int .i64 1)
        replace o4 := own_set1 (j := 7) o4 bv (by decide) (.int .i64 1)
        replace B0 := B0.setCell (p := ⟨g5, 7, none⟩) (show w.heap.size ≤ g5 by have := HG5.out; omega) (.int .i64 1)
        replace r3 := (show World.ownsRow ((w10.setCell ⟨g5, 7, none⟩ (.int .i64 1)).setCells (w.heap.size + 1 + 1) 0 [.slice A1 n c1, .slice A4 ks.length c4, .int .i64 s, .int .i64 t, .int .i64 f, .int .i64 l, .int .i64 p, .int .i64 1, .int .u64 0, .slice none 0 0, .slice none 0 0, .int .i64 0, .int .i64 0, .int .i64 0, .int .i64 0, .int .i64 0, .int .i64 0, .int .i64 0, .int .u64 0, .int .i64 0, .slice none 0 0, .int .i64 0]) _ _ _ _ _ _ from by rw [putL_eq]; exact own_putT (by decide) _ _ _ 0 bo2 r3)
        replace o4 := (show World.ownsRow ((w10.setCell ⟨g5, 7, none⟩ (.int .i64 1)).setCells (w.heap.size + 1 + 1) 0 [.slice A1 n c1, .slice A4 ks.length c4, .int .i64 s, .int .i64 t, .int .i64 f, .int .i64 l, .int .i64 p, .int .i64 1, .int .u64 0, .slice none 0 0, .slice none 0 0, .int .i64 0, .int .i64 0, .int .i64 0, .int .i64 0, .int .i64 0, .int .i64 0, .int .i64 0, .int .u64 0, .int .i64 0, .slice none 0 0, .int .i64 0]) _ _ _ _ _ _ from by rw [putL_eq]; exact own_putT (by decide) _ _ _ 0 bo2 o4)
        replace B0 := (show Below w.heap.size w ((w10.setCell ⟨g5, 7, none⟩ (.int .i64 1)).setCells (w.heap.size + 1 + 1) 0 [.slice A1 n c1, .slice A4 ks.length c4, .int .i64 s, .int .i64 t, .int .i64 f, .int .i64 l, .int .i64 p, .int .i64 1, .int .u64 0, .slice none 0 0, .slice none 0 0, .int .i64 0, .int .i64 0, .int .i64 0, .int .i64 0, .int .i64 0, .int .i64 0, .int .i64 0, .int .u64 0, .int .i64 0, .slice none 0 0, .int .i64 0]) from by rw [putL_eq]; exact Below.putL (by omega) _ _ 0 B0)
        have bo3 := (show Blk ((w10.setCell ⟨g5, 7, none⟩ (.int .i64 1)).setCells (w.heap.size + 1 + 1) 0 [.slice A1 n c1, .slice A4 ks.length c4, .int .i64 s, .int .i64 t, .int .i64 f, .int .i64 l, .int .i64 p, .int .i64 1, .int .u64 0, .slice none 0 0, .slice none 0 0, .int .i64 0, .int .i64 0, .int .i64 0, .int .i64 0, .int .i64 0, .int .i64 0, .int .i64 0, .int .u64 0, .int .i64 0, .slice none 0 0, .int .i64 0]) (w.heap.size + 1 + 1) 51 #[.slice A1 n c1, .slice A4 ks.length c4, .int .i64 s, .int .i64 t, .int .i64 f, .int .i64 l, .int .i64 p, .int .i64 1, .int .u64 0, .slice none 0 0, .slice none 0 0, .int .i64 0, .int .i64 0, .int .i64 0, .int .i64 0, .int .i64 0, .int .i64 0, .int .i64 0, .int .u64 0, .int .i64 0, .slice none 0 0, .int .i64 0] from by rw [putL_eq]; have h9 := Blk.putL [.slice A1 n c1, .slice A4 ks.length c4, .int .i64 s, .int .i64 t, .int .i64 f, .int .i64 l, .int .i64 p, .int .i64 1, .int .u64 0, .slice none 0 0, .slice none 0 0, .int .i64 0, .int .i64 0, .int .i64 0, .int .i64 0, .int .i64 0, .int .i64 0, .int .i64 0, .int .u64 0, .int .i64 0, .slice none 0 0, .int .i64 0] _ _ 0 bo2; simpa only [setL, List.setIfInBounds_toArray, List.set_cons_zero, List.set_cons_succ] using h9)
        generalize (w10.setCell ⟨g5, 7, none⟩ (.int .i64 1)).setCells (w.heap.size + 1 + 1) 0 [.slice A1 n c1, .slice A4 ks.length c4, .int .i64 s, .int .i64 t, .int .i64 f, .int .i64 l, .int .i64 p, .int .i64 1, .int .u64 0, .slice none 0 0, .slice none 0 0, .int .i64 0, .int .i64 0, .int .i64 0, .int .i64 0, .int .i64 0, .int .i64 0, .int .i64 0, .int .u64 0, .int .i64 0, .slice none 0 0, .int .i64 0] = w12 at *
        have hres : (loadVar 51 ⟨w.heap.size + 1 + 1, 0, none⟩).run Tryd.prog w12 = .ok (.agg #[.slice A1 n c1, .slice A4 ks.length c4, .int .i64 s, .int .i64 t, .int .i64 f, .int .i64 l, .int .i64 p, .int .i64 1, .int .u64 0, .slice none 0 0, .slice none 0 0, .int .i64 0, .int .i64 0, .int .i64 0, .int .i64 0, .int .i64 0, .int .i64 0, .int .i64 0, .int .u64 0, .int .i64 0, .slice none 0 0, .int .i64 0]) w12 := run_loadVar_mid w12 _ 0 _ [.slice A1 n c1, .slice A4 ks.length c4, .int .i64 s, .int .i64 t, .int .i64 f, .int .i64 l, .int .i64 p, .int .i64 1, .int .u64 0, .slice none 0 0, .slice none 0 0, .int .i64 0, .int .i64 0, .int .i64 0, .int .i64 0, .int .i64 0, .int .i64 0, .int .i64 0, .int .u64 0, .int .i64 0, .slice none 0 0, .int .i64 0] _ bo3.range Tryd.underlying51 rfl (by kernel_rfl)
        refine bodyPost_ret (v := .agg #[.slice A1 n c1, .slice A4 ks.length c4, .int .i64 s, .int .i64 t, .int .i64 f, .int .i64 l, .int .i64 p, .int .i64 1, .int .u64 0, .slice none 0 0, .slice none 0 0, .int .i64 0, .int .i64 0, .int .i64 0, .int .i64 0, .int .i64 0, .int .i64 0, .int .i64 0, .int .u64 0, .int .i64 0, .slice none 0 0, .int .i64 0]) (by simp [results, Tryd.results17, Act.put, asAddr, hres]) rfl ⟨⟨A1, c1, A4, c4, rfl, r3, o4⟩, B0⟩
      exact AllReadyZ.nil
    exact AllReadyZ.nil
  exact AllReadyZ.nil
set_option linter.unusedSimpArgs false in
set_option maxRecDepth 100000 in
set_option maxHeartbeats 4000000 in
theorem snew_no (s t f l p q : Int) (A : Option Addr) (n c : Nat) (r : List (Int × Int)) (v : Value) (ks : List Int) (w : World) (hn : n ≤ 1000) (hk : ks.length ≤ 1000) (hr : Reads w w.heap.size 2 A n (rec2 r)) (hs : Sl w w.heap.size v ks)
    (SZ0 : ∀ w2, Calls Tryd.prog 41 #[.agg #[.int .i64 s, .int .i64 t, .int .i64 f, .int .i64 l, .int .i64 p]] w2 fun e w' => e = .returned (.int .i64 q) ∧ Below w2.heap.size w2 w') (hq : ¬ 0 < q) :
    Calls Tryd.prog 17 #[.agg #[.int .i64 s, .int .i64 t, .int .i64 f, .int .i64 l, .int .i64 p], .agg #[.slice A n c, v]] w fun e w' => (∃ A1 c1 A4 c4, e = .returned (.agg #[.slice A1 n c1, .slice A4 ks.length c4, .int .i64 s, .int .i64 t, .int .i64 f, .int .i64 l, .int .i64 p, .int .i64 0, .int .u64 0, .slice none 0 0, .slice none 0 0, .int .i64 0, .int .i64 0, .int .i64 0, .int .i64 0, .int .i64 0, .int .i64 0, .int .i64 0, .int .u64 0, .int .i64 0, .slice none 0 0, .int .i64 0]) ∧ OwnR w' w.heap.size (.slice A1 n c1) n r ∧ Own w' w.heap.size (.slice A4 ks.length c4) ks) ∧ Below w.heap.size w w' := by
  obtain ⟨A2, c2, rfl, q1, q2, q3⟩ := hs
  have HS := hide (show Sl w w.heap.size (.slice A2 ks.length c2) ks from ⟨A2, c2, rfl, q1, q2, q3⟩)
  have CP := hide (fun w2 (h : Below w.heap.size w w2) => copied_any A n c r (.slice A2 ks.length c2) ks w2 hn hk ((hr.below h).more h.size) ((HS.out.below h).more h.size))
  have SZ := hide SZ0
  have B0 := (((Below.refl w.heap.size w).alloc (Nat.le_refl _) (.cells #[.int .i64 s, .int .i64 t, .int .i64 f, .int .i64 l, .int .i64 p] 44)).alloc (by simp only [World.size_alloc]; omega) (.cells #[.slice A n c, .slice A2 ks.length c2] 25)).alloc (by simp only [World.size_alloc]; omega) (.cells #[.slice none 0 0, .slice none 0 0, .int .i64 0, .int .i64 0, .int .i64 0, .int .i64 0, .int .i64 0, .int .i64 0, .int .u64 0, .slice none 0 0, .slice none 0 0, .int .i64 0, .int .i64 0, .int .i64 0, .int .i64 0, .int .i64 0, .int .i64 0, .int .i64 0, .int .u64 0, .int .i64 0, .slice none 0 0, .int .i64 0] 51)
  have bx := ((Blk.new w 44 #[.int .i64 s, .int .i64 t, .int .i64 f, .int .i64 l, .int .i64 p]).alloc (.cells #[.slice A n c, .slice A2 ks.length c2] 25)).alloc (.cells #[.slice none 0 0, .slice none 0 0, .int .i64 0, .int .i64 0, .int .i64 0, .int .i64 0, .int .i64 0, .int .i64 0, .int .u64 0, .slice none 0 0, .slice none 0 0, .int .i64 0, .int .i64 0, .int .i64 0, .int .i64 0, .int .i64 0, .int .i64 0, .int .i64 0, .int .u64 0, .int .i64 0, .slice none 0 0, .int .i64 0] 51)
  have by_ := (Blk.new (w.alloc (.cells #[.int .i64 s, .int .i64 t, .int .i64 f, .int .i64 l, .int .i64 p] 44)) 25 #[.slice A n c, .slice A2 ks.length c2]).alloc (.cells #[.slice none 0 0, .slice none 0 0, .int .i64 0, .int .i64 0, .int .i64 0, .int .i64 0, .int .i64 0, .int .i64 0, .int .u64 0, .slice none 0 0, .slice none 0 0, .int .i64 0, .int .i64 0, .int .i64 0, .int .i64 0, .int .i64 0, .int .i64 0, .int .i64 0, .int .u64 0, .int .i64 0, .slice none 0 0, .int .i64 0] 51)
  have bo := Blk.new ((w.alloc (.cells #[.int .i64 s, .int .i64 t, .int .i64 f, .int .i64 l, .int .i64 p] 44)).alloc (.cells #[.slice A n c, .slice A2 ks.length c2] 25)) 51 #[.slice none 0 0, .slice none 0 0, .int .i64 0, .int .i64 0, .int .i64 0, .int .i64 0, .int .i64 0, .int .i64 0, .int .u64 0, .slice none 0 0, .slice none 0 0, .int .i64 0, .int .i64 0, .int .i64 0, .int .i64 0, .int .i64 0, .int .i64 0, .int .i64 0, .int .u64 0, .int .i64 0, .slice none 0 0, .int .i64 0]
  simp only [World.size_alloc] at bo by_
  clear q1 q2 q3 hn hk hr SZ0
  go_enter Tryd.func17, Tryd.ntmps17
  go_wp2_with fail
  generalize ((w.alloc (.cells #[.int .i64 s, .int .i64 t, .int .i64 f, .int .i64 l, .int .i64 p] 44)).alloc (.cells #[.slice A n c, .slice A2 ks.length c2] 25)).alloc (.cells #[.slice none 0 0, .slice none 0 0, .int .i64 0, .int .i64 0, .int .i64 0, .int .i64 0, .int .i64 0, .int .i64 0, .int .u64 0, .slice none 0 0, .slice none 0 0, .int .i64 0, .int .i64 0, .int .i64 0, .int .i64 0, .int .i64 0, .int .i64 0, .int .i64 0, .int .u64 0, .int .i64 0, .slice none 0 0, .int .i64 0] 51) = w0 at *
  refine wp_region_heldZ [5] (fun w' => w'.cell? ⟨w.heap.size, 0, none⟩ = some (.int .i64 s) ∧ w'.cell? ⟨w.heap.size, 1, none⟩ = some (.int .i64 t) ∧ w'.cell? ⟨w.heap.size, 2, none⟩ = some (.int .i64 f) ∧ w'.cell? ⟨w.heap.size, 3, none⟩ = some (.int .i64 l) ∧ w'.cell? ⟨w.heap.size, 4, none⟩ = some (.int .i64 p) ∧ w'.cell? ⟨w.heap.size + 1, 0, none⟩ = some (.slice A n c) ∧ w'.cell? ⟨w.heap.size + 1, 1, none⟩ = some (.slice A2 ks.length c2)) (by kernel_rfl) (by exact ⟨bx.cell 0, bx.cell 1, bx.cell 2, bx.cell 3, bx.cell 4, by_.cell 0, by_.cell 1⟩) (fun hHeld => ?_)
  replace bx := bx.drew
  replace by_ := by_.drew
  replace bo := bo.drew
  replace B0 := B0.drew
  generalize w0.drew = wd at *
  refine' wpAnyZ_takeA (i := 0) (v := ?_) (opAt rfl) (by kernel_rfl) (by kernel_rfl) (by kernel_rfl) (by kernel_rfl) (fun _ _ _ h => h) (by assumption) (by rfl) (fun w hSw => ?_) ?_
  rotate_left
  · (try dsimp only at hSw); go_simp; (try with_reducible rfl)
  try simp only [Act.put, List.setIfInBounds_toArray, List.set_cons_zero, List.set_cons_succ]
  refine' wpAnyZ_takeA (i := 2) (v := ?_) (opAt rfl) (by kernel_rfl) (by kernel_rfl) (by kernel_rfl) (by kernel_rfl) (fun _ _ _ h => h) (by assumption) (by rfl) (fun w hSw => ?_) ?_
  rotate_left
  · (try dsimp only at hSw); go_simp; (try with_reducible rfl)
  try simp only [Act.put, List.setIfInBounds_toArray, List.set_cons_zero, List.set_cons_succ]
  refine wpAnyZ_ready (rs := [1, 4]) (by kernel_rfl) (by simp) ?_
  refine AllReadyZ.cons (opAt rfl) (fun K hK => ?_) ?_
  · skip
    go_simp
    refine (CP.out _ B0).mono ?_
    rintro e w1 ⟨⟨A1, c1, u4, rfl, r3, o4⟩, hb1⟩
    have r3 := own_mono r3 B0.size
    have o4 := own_mono o4 B0.size
    obtain ⟨A4, c4, rfl⟩ := Own.val o4
    replace bx := bx.below hb1 bx.lt
    replace by_ := by_.below hb1 by_.lt
    replace bo := bo.below hb1 bo.lt
    replace B0 := B0.trans (hb1.mono B0.size)
    clear hb1
    try go_wp2_with fail
    refine hK.out _ _ (by exact ⟨bx.cell 0, bx.cell 1, bx.cell 2, bx.cell 3, bx.cell 4, by_.cell 0, by_.cell 1⟩) (fun hHeld => ?_)
    clear hK K
    try simp only [Act.put, List.setIfInBounds_toArray, List.set_cons_zero, List.set_cons_succ]
    refine' wpAnyZ_takeA (i := 3) (v := ?_) (opAt rfl) (by kernel_rfl) (by kernel_rfl) (by kernel_rfl) (by kernel_rfl) (fun _ _ _ h => h) (by assumption) (by rfl) (fun w hSw => ?_) ?_
    rotate_left
    · (try dsimp only at hSw); go_simp; (try with_reducible rfl)
    try simp only [Act.put, List.setIfInBounds_toArray, List.set_cons_zero, List.set_cons_succ]
    refine wpAnyZ_ready (rs := [4]) (by kernel_rfl) (by simp) ?_
    refine AllReadyZ.cons (opAt rfl) (fun K hK => ?_) ?_
    · skip
      go_simp
      have HG5 := hide (show w.heap.size + 3 ≤ w1.heap.size by have := bo.lt; omega)
      have bv := Blk.new w1 51 #[.slice none 0 0, .slice none 0 0, .int .i64 0, .int .i64 0, .int .i64 0, .int .i64 0, .int .i64 0, .int .i64 0, .int .u64 0, .slice none 0 0, .slice none 0 0, .int .i64 0, .int .i64 0, .int .i64 0, .int .i64 0, .int .i64 0, .int .i64 0, .int .i64 0, .int .u64 0, .int .i64 0, .slice none 0 0, .int .i64 0]
      replace bx := bx.alloc (.cells #[.slice none 0 0, .slice none 0 0, .int .i64 0, .int .i64 0, .int .i64 0, .int .i64 0, .int .i64 0, .int .i64 0, .int .u64 0, .slice none 0 0, .slice none 0 0, .int .i64 0, .int .i64 0, .int .i64 0, .int .i64 0, .int .i64 0, .int .i64 0, .int .i64 0, .int .u64 0, .int .i64 0, .slice none 0 0, .int .i64 0] 51)
      replace by_ := by_.alloc (.cells #[.slice none 0 0, .slice none 0 0, .int .i64 0, .int .i64 0, .int .i64 0, .int .i64 0, .int .i64 0, .int .i64 0, .int .u64 0, .slice none 0 0, .slice none 0 0, .int .i64 0, .int .i64 0, .int .i64 0, .int .i64 0, .int .i64 0, .int .i64 0, .int .i64 0, .int .u64 0, .int .i64 0, .slice none 0 0, .int .i64 0] 51)
      replace bo := bo.alloc (.cells #[.slice none 0 0, .slice none 0 0, .int .i64 0, .int .i64 0, .int .i64 0, .int .i64 0, .int .i64 0, .int .i64 0, .int .u64 0, .slice none 0 0, .slice none 0 0, .int .i64 0, .int .i64 0, .int .i64 0, .int .i64 0, .int .i64 0, .int .i64 0, .int .i64 0, .int .u64 0, .int .i64 0, .slice none 0 0, .int .i64 0] 51)
      replace r3 := World.ownsRow.alloc r3 (.cells #[.slice none 0 0, .slice none 0 0, .int .i64 0, .int .i64 0, .int .i64 0, .int .i64 0, .int .i64 0, .int .i64 0, .int .u64 0, .slice none 0 0, .slice none 0 0, .int .i64 0, .int .i64 0, .int .i64 0, .int .i64 0, .int .i64 0, .int .i64 0, .int .i64 0, .int .u64 0, .int .i64 0, .slice none 0 0, .int .i64 0] 51)
      replace o4 := World.ownsRow.alloc o4 (.cells #[.slice none 0 0, .slice none 0 0, .int .i64 0, .int .i64 0, .int .i64 0, .int .i64 0, .int .i64 0, .int .i64 0, .int .u64 0, .slice none 0 0, .slice none 0 0, .int .i64 0, .int .i64 0, .int .i64 0, .int .i64 0, .int .i64 0, .int .i64 0, .int .i64 0, .int .u64 0, .int .i64 0, .slice none 0 0, .int .i64 0] 51)
      replace B0 := B0.alloc B0.size (.cells #[.slice none 0 0, .slice none 0 0, .int .i64 0, .int .i64 0, .int .i64 0, .int .i64 0, .int .i64 0, .int .i64 0, .int .u64 0, .slice none 0 0, .slice none 0 0, .int .i64 0, .int .i64 0, .int .i64 0, .int .i64 0, .int .i64 0, .int .i64 0, .int .i64 0, .int .u64 0, .int .i64 0, .slice none 0 0, .int .i64 0] 51)
      generalize w1.heap.size = g5 at *
      generalize w1.alloc (.cells #[.slice none 0 0, .slice none 0 0, .int .i64 0, .int .i64 0, .int .i64 0, .int .i64 0, .int .i64 0, .int .i64 0, .int .u64 0, .slice none 0 0, .slice none 0 0, .int .i64 0, .int .i64 0, .int .i64 0, .int .i64 0, .int .i64 0, .int .i64 0, .int .i64 0, .int .u64 0, .int .i64 0, .slice none 0 0, .int .i64 0] 51) = w2 at *
      refine hK.out _ _ (by exact ⟨bx.cell 0, bx.cell 1, bx.cell 2, bx.cell 3, bx.cell 4, by_.cell 0, by_.cell 1⟩) (fun hHeld => ?_)
      clear hK K
      try simp only [Act.put, List.setIfInBounds_toArray, List.set_cons_zero, List.set_cons_succ]
      refine wpAnyZ_ready (rs := [5]) (by kernel_rfl) (by simp) ?_
      refine AllReadyZ.last (opAt rfl) (by kernel_rfl) (fun K hK => ?_) ?_
      · skip
        refine wp_store_mid 51 (.tmp 5) (.tmp 9) rfl g5 0 #[.slice A1 n c1, .slice A4 ks.length c4, .int .i64 s, .int .i64 t, .int .i64 f, .int .i64 l, .int .i64 p, .int .i64 0, .int .u64 0, .slice none 0 0, .slice none 0 0, .int .i64 0, .int .i64 0, .int .i64 0, .int .i64 0, .int .i64 0, .int .i64 0, .int .i64 0, .int .u64 0, .int .i64 0, .slice none 0 0, .int .i64 0] (by rfl) (by rfl) (bv.there rfl) (by kernel_rfl) (by kernel_rfl) ?_
        refine hK.out _ _ ?_
        clear hK K
        try simp only [Act.put, List.setIfInBounds_toArray, List.set_cons_zero, List.set_cons_succ]
        refine wpAnyZ_done (by kernel_rfl) ?_ _
        replace r3 := (show World.ownsRow (w2.setCells g5 0 [.slice A1 n c1, .slice A4 ks.length c4, .int .i64 s, .int .i64 t, .int .i64 f, .int .i64 l, .int .i64 p, .int .i64 0, .int .u64 0, .slice none 0 0, .slice none 0 0, .int .i64 0, .int .i64 0, .int .i64 0, .int .i64 0, .int .i64 0, .int .i64 0, .int .i64 0, .int .u64 0, .int .i64 0, .slice none 0 0, .int .i64 0]) _ _ _ _ _ _ from by rw [putL_eq]; exact own_putT (by decide) _ _ _ 0 bv r3)
        replace o4 := (show World.ownsRow (w2.setCells g5 0 [.slice A1 n c1, .slice A4 ks.length c4, .int .i64 s, .int .i64 t, .int .i64 f, .int .i64 l, .int .i64 p, .int .i64 0, .int .u64 0, .slice none 0 0, .slice none 0 0, .int .i64 0, .int .i64 0, .int .i64 0, .int .i64 0, .int .i64 0, .int .i64 0, .int .i64 0, .int .u64 0, .int .i64 0, .slice none 0 0, .int .i64 0]) _ _ _ _ _ _ from by rw [putL_eq]; exact own_putT (by decide) _ _ _ 0 bv o4)
        replace bx := (show Blk (w2.setCells g5 0 [.slice A1 n c1, .slice A4 ks.length c4, .int .i64 s, .int .i64 t, .int .i64 f, .int .i64 l, .int .i64 p, .int .i64 0, .int .u64 0, .slice none 0 0, .slice none 0 0, .int .i64 0, .int .i64 0, .int .i64 0, .int .i64 0, .int .i64 0, .int .i64 0, .int .i64 0, .int .u64 0, .int .i64 0, .slice none 0 0, .int .i64 0]) _ _ _ from by rw [putL_eq]; exact Blk.offL (by have := HG5.out; omega) _ _ 0 bx)
        replace bo := (show Blk (w2.setCells g5 0 [.slice A1 n c1, .slice A4 ks.length c4, .int .i64 s, .int .i64 t, .int .i64 f, .int .i64 l, .int .i64 p, .int .i64 0, .int .u64 0, .slice none 0 0, .slice none 0 0, .int .i64 0, .int .i64 0, .int .i64 0, .int .i64 0, .int .i64 0, .int .i64 0, .int .i64 0, .int .u64 0, .int .i64 0, .slice none 0 0, .int .i64 0]) _ _ _ from by rw [putL_eq]; exact Blk.offL (by have := HG5.out; omega) _ _ 0 bo)
        replace B0 := (show Below w.heap.size w (w2.setCells g5 0 [.slice A1 n c1, .slice A4 ks.length c4, .int .i64 s, .int .i64 t, .int .i64 f, .int .i64 l, .int .i64 p, .int .i64 0, .int .u64 0, .slice none 0 0, .slice none 0 0, .int .i64 0, .int .i64 0, .int .i64 0, .int .i64 0, .int .i64 0, .int .i64 0, .int .i64 0, .int .u64 0, .int .i64 0, .slice none 0 0, .int .i64 0]) from by rw [putL_eq]; exact Below.putL (by have := HG5.out; omega) _ _ 0 B0)
        replace bv := (show Blk (w2.setCells g5 0 [.slice A1 n c1, .slice A4 ks.length c4, .int .i64 s, .int .i64 t, .int .i64 f, .int .i64 l, .int .i64 p, .int .i64 0, .int .u64 0, .slice none 0 0, .slice none 0 0, .int .i64 0, .int .i64 0, .int .i64 0, .int .i64 0, .int .i64 0, .int .i64 0, .int .i64 0, .int .u64 0, .int .i64 0, .slice none 0 0, .int .i64 0]) g5 51 #[.slice A1 n c1, .slice A4 ks.length c4, .int .i64 s, .int .i64 t, .int .i64 f, .int .i64 l, .int .i64 p, .int .i64 0, .int .u64 0, .slice none 0 0, .slice none 0 0, .int .i64 0, .int .i64 0, .int .i64 0, .int .i64 0, .int .i64 0, .int .i64 0, .int .i64 0, .int .u64 0, .int .i64 0, .slice none 0 0, .int .i64 0] from by rw [putL_eq]; have h9 := Blk.putL [.slice A1 n c1, .slice A4 ks.length c4, .int .i64 s, .int .i64 t, .int .i64 f, .int .i64 l, .int .i64 p, .int .i64 0, .int .u64 0, .slice none 0 0, .slice none 0 0, .int .i64 0, .int .i64 0, .int .i64 0, .int .i64 0, .int .i64 0, .int .i64 0, .int .i64 0, .int .u64 0, .int .i64 0, .slice none 0 0, .int .i64 0] _ _ 0 bv; simpa only [setL, List.setIfInBounds_toArray, List.set_cons_zero, List.set_cons_succ] using h9)
        clear by_ hHeld
        generalize w2.setCells g5 0 [.slice A1 n c1, .slice A4 ks.length c4, .int .i64 s, .int .i64 t, .int .i64 f, .int .i64 l, .int .i64 p, .int .i64 0, .int .u64 0, .slice none 0 0, .slice none 0 0, .int .i64 0, .int .i64 0, .int .i64 0, .int .i64 0, .int .i64 0, .int .i64 0, .int .i64 0, .int .u64 0, .int .i64 0, .slice none 0 0, .int .i64 0] = w9 at *
        have mx := fun i => bx.cell i
        go_wp2_with fail
        refine (SZ.out _).mono ?_
        rintro e w10 ⟨rfl, hb1⟩
        replace r3 := own_below r3 hb1
        replace o4 := own_below o4 hb1
        replace bo := bo.below hb1 bo.lt
        replace bv := bv.below hb1 bv.lt
        replace B0 := B0.trans (hb1.mono B0.size)
        clear hb1 mx bx
        have hm7 := bv.cell 7
        have hz7 := bv.frozen 7
        have bv2 := bv
        have bo2 := bo
        go_wp2_with (first | (refine wpList_load_mid rfl 51 (.tmp 5) rfl g5 0 (by rfl) [.slice A1 n c1, .slice A4 ks.length c4, .int .i64 s, .int .i64 t, .int .i64 f, .int .i64 l, .int .i64 p, .int .i64 0, .int .u64 0, .slice none 0 0, .slice none 0 0, .int .i64 0, .int .i64 0, .int .i64 0, .int .i64 0, .int .i64 0, .int .i64 0, .int .i64 0, .int .u64 0, .int .i64 0, .slice none 0 0, .int .i64 0] _ bv2.range Tryd.underlying51 rfl (by kernel_rfl) ?_) | (refine wpList_store_mid rfl 51 (.tmp 4) (.tmp 14) rfl (w.heap.size + 1 + 1) 0 #[.slice A1 n c1, .slice A4 ks.length c4, .int .i64 s, .int .i64 t, .int .i64 f, .int .i64 l, .int .i64 p, .int .i64 0, .int .u64 0, .slice none 0 0, .slice none 0 0, .int .i64 0, .int .i64 0, .int .i64 0, .int .i64 0, .int .i64 0, .int .i64 0, .int .i64 0, .int .u64 0, .int .i64 0, .slice none 0 0, .int .i64 0] (by rfl) (by rfl) (bo2.there rfl) (by kernel_rfl) (by kernel_rfl) ?_))
        replace r3 := (show World.ownsRow (w10.setCells (w.heap.size + 1 + 1) 0 [.slice A1 n c1, .slice A4 ks.length c4, .int .i64 s, .int .i64 t, .int .i64 f, .int .i64 l, .int .i64 p, .int .i64 0, .int .u64 0, .slice none 0 0, .slice none 0 0, .int .i64 0, .int .i64 0, .int .i64 0, .int .i64 0, .int .i64 0, .int .i64 0, .int .i64 0, .int .u64 0, .int .i64 0, .slice none 0 0, .int .i64 0]) _ _ _ _ _ _ from by rw [putL_eq]; exact own_putT (by decide) _ _ _ 0 bo2 r3)
        replace o4 := (show World.ownsRow (w10.setCells (w.heap.size + 1 + 1) 0 [.slice A1 n c1, .slice A4 ks.length c4, .int .i64 s, .int .i64 t, .int .i64 f, .int .i64 l, .int .i64 p, .int .i64 0, .int .u64 0, .slice none 0 0, .slice none 0 0, .int .i64 0, .int .i64 0, .int .i64 0, .int .i64 0, .int .i64 0, .int .i64 0, .int .i64 0, .int .u64 0, .int .i64 0, .slice none 0 0, .int .i64 0]) _ _ _ _ _ _ from by rw [putL_eq]; exact own_putT (by decide) _ _ _ 0 bo2 o4)
        replace B0 := (show Below w.heap.size w (w10.setCells (w.heap.size + 1 + 1) 0 [.slice A1 n c1, .slice A4 ks.length c4, .int .i64 s, .int .i64 t, .int .i64 f, .int .i64 l, .int .i64 p, .int .i64 0, .int .u64 0, .slice none 0 0, .slice none 0 0, .int .i64 0, .int .i64 0, .int .i64 0, .int .i64 0, .int .i64 0, .int .i64 0, .int .i64 0, .int .u64 0, .int .i64 0, .slice none 0 0, .int .i64 0]) from by rw [putL_eq]; exact Below.putL (by omega) _ _ 0 B0)
        have bo3 := (show Blk (w10.setCells (w.heap.size + 1 + 1) 0 [.slice A1 n c1, .slice A4 ks.length c4, .int .i64 s, .int .i64 t, .int .i64 f, .int .i64 l, .int .i64 p, .int .i64 0, .int .u64 0, .slice none 0 0, .slice none 0 0, .int .i64 0, .int .i64 0, .int .i64 0, .int .i64 0, .int .i64 0, .int .i64 0, .int .i64 0, .int .u64 0, .int .i64 0, .slice none 0 0, .int .i64 0]) (w.heap.size + 1 + 1) 51 #[.slice A1 n c1, .slice A4 ks.length c4, .int .i64 s, .int .i64 t, .int .i64 f, .int .i64 l, .int .i64 p, .int .i64 0, .int .u64 0, .slice none 0 0, .slice none 0 0, .int .i64 0, .int .i64 0, .int .i64 0, .int .i64 0, .int .i64 0, .int .i64 0, .int .i64 0, .int .u64 0, .int .i64 0, .slice none 0 0, .int .i64 0] from by rw [putL_eq]; have h9 := Blk.putL [.slice A1 n c1, .slice A4 ks.length c4, .int .i64 s, .int .i64 t, .int .i64 f, .int .i64 l, .int .i64 p, .int .i64 0, .int .u64 0, .slice none 0 0, .slice none 0 0, .int .i64 0, .int .i64 0, .int .i64 0, .int .i64 0, .int .i64 0, .int .i64 0, .int .i64 0, .int .u64 0, .int .i64 0, .slice none 0 0, .int .i64 0] _ _ 0 bo2; simpa only [setL, List.setIfInBounds_toArray, List.set_cons_zero, List.set_cons_succ] using h9)
        generalize w10.setCells (w.heap.size + 1 + 1) 0 [.slice A1 n c1, .slice A4 ks.length c4, .int .i64 s, .int .i64 t, .int .i64 f, .int .i64 l, .int .i64 p, .int .i64 0, .int .u64 0, .slice none 0 0, .slice none 0 0, .int .i64 0, .int .i64 0, .int .i64 0, .int .i64 0, .int .i64 0, .int .i64 0, .int .i64 0, .int .u64 0, .int .i64 0, .slice none 0 0, .int .i64 0] = w12 at *
        have hres : (loadVar 51 ⟨w.heap.size + 1 + 1, 0, none⟩).run Tryd.prog w12 = .ok (.agg #[.slice A1 n c1, .slice A4 ks.length c4, .int .i64 s, .int .i64 t, .int .i64 f, .int .i64 l, .int .i64 p, .int .i64 0, .int .u64 0, .slice none 0 0, .slice none 0 0, .int .i64 0, .int .i64 0, .int .i64 0, .int .i64 0, .int .i64 0, .int .i64 0, .int .i64 0, .int .u64 0, .int .i64 0, .slice none 0 0, .int .i64 0]) w12 := run_loadVar_mid w12 _ 0 _ [.slice A1 n c1, .slice A4 ks.length c4, .int .i64 s, .int .i64 t, .int .i64 f, .int .i64 l, .int .i64 p, .int .i64 0, .int .u64 0, .slice none 0 0, .slice none 0 0, .int .i64 0, .int .i64 0, .int .i64 0, .int .i64 0, .int .i64 0, .int .i64 0, .int .i64 0, .int .u64 0, .int .i64 0, .slice none 0 0, .int .i64 0] _ bo3.range Tryd.underlying51 rfl (by kernel_rfl)
        refine bodyPost_ret (v := .agg #[.slice A1 n c1, .slice A4 ks.length c4, .int .i64 s, .int .i64 t, .int .i64 f, .int .i64 l, .int .i64 p, .int .i64 0, .int .u64 0, .slice none 0 0, .slice none 0 0, .int .i64 0, .int .i64 0, .int .i64 0, .int .i64 0, .int .i64 0, .int .i64 0, .int .i64 0, .int .u64 0, .int .i64 0, .slice none 0 0, .int .i64 0]) (by simp [results, Tryd.results17, Act.put, asAddr, hres]) rfl ⟨⟨A1, c1, A4, c4, rfl, r3, o4⟩, B0⟩
      exact AllReadyZ.nil
    exact AllReadyZ.nil
  refine AllReadyZ.cons (opAt rfl) (fun K hK => ?_) ?_
  · skip
    go_simp
    have HG5 := hide (show w.heap.size + 3 ≤ wd.heap.size by have := bo.lt; omega)
    have bv := Blk.new wd 51 #[.slice none 0 0, .slice none 0 0, .int .i64 0, .int .i64 0, .int .i64 0, .int .i64 0, .int .i64 0, .int .i64 0, .int .u64 0, .slice none 0 0, .slice none 0 0, .int .i64 0, .int .i64 0, .int .i64 0, .int .i64 0, .int .i64 0, .int .i64 0, .int .i64 0, .int .u64 0, .int .i64 0, .slice none 0 0, .int .i64 0]
    replace bx := bx.alloc (.cells #[.slice none 0 0, .slice none 0 0, .int .i64 0, .int .i64 0, .int .i64 0, .int .i64 0, .int .i64 0, .int .i64 0, .int .u64 0, .slice none 0 0, .slice none 0 0, .int .i64 0, .int .i64 0, .int .i64 0, .int .i64 0, .int .i64 0, .int .i64 0, .int .i64 0, .int .u64 0, .int .i64 0, .slice none 0 0, .int .i64 0] 51)
    replace by_ := by_.alloc (.cells #[.slice none 0 0, .slice none 0 0, .int .i64 0, .int .i64 0, .int .i64 0, .int .i64 0, .int .i64 0, .int .i64 0, .int .u64 0, .slice none 0 0, .slice none 0 0, .int .i64 0, .int .i64 0, .int .i64 0, .int .i64 0, .int .i64 0, .int .i64 0, .int .i64 0, .int .u64 0, .int .i64 0, .slice none 0 0, .int .i64 0] 51)
    replace bo := bo.alloc (.cells #[.slice none 0 0, .slice none 0 0, .int .i64 0, .int .i64 0, .int .i64 0, .int .i64 0, .int .i64 0, .int .i64 0, .int .u64 0, .slice none 0 0, .slice none 0 0, .int .i64 0, .int .i64 0, .int .i64 0, .int .i64 0, .int .i64 0, .int .i64 0, .int .i64 0, .int .u64 0, .int .i64 0, .slice none 0 0, .int .i64 0] 51)
    replace B0 := B0.alloc B0.size (.cells #[.slice none 0 0, .slice none 0 0, .int .i64 0, .int .i64 0, .int .i64 0, .int .i64 0, .int .i64 0, .int .i64 0, .int .u64 0, .slice none 0 0, .slice none 0 0, .int .i64 0, .int .i64 0, .int .i64 0, .int .i64 0, .int .i64 0, .int .i64 0, .int .i64 0, .int .u64 0, .int .i64 0, .slice none 0 0, .int .i64 0] 51)
    generalize wd.heap.size = g5 at *
    generalize wd.alloc (.cells #[.slice none 0 0, .slice none 0 0, .int .i64 0, .int .i64 0, .int .i64 0, .int .i64 0, .int .i64 0, .int .i64 0, .int .u64 0, .slice none 0 0, .slice none 0 0, .int .i64 0, .int .i64 0, .int .i64 0, .int .i64 0, .int .i64 0, .int .i64 0, .int .i64 0, .int .u64 0, .int .i64 0, .slice none 0 0, .int .i64 0] 51) = w1 at *
    refine hK.out _ _ (by exact ⟨bx.cell 0, bx.cell 1, bx.cell 2, bx.cell 3, bx.cell 4, by_.cell 0, by_.cell 1⟩) (fun hHeld => ?_)
    clear hK K
    try simp only [Act.put, List.setIfInBounds_toArray, List.set_cons_zero, List.set_cons_succ]
    refine wpAnyZ_ready (rs := [1]) (by kernel_rfl) (by simp) ?_
    refine AllReadyZ.cons (opAt rfl) (fun K hK => ?_) ?_
    · skip
      go_simp
      refine (CP.out _ B0).mono ?_
      rintro e w2 ⟨⟨A1, c1, u4, rfl, r3, o4⟩, hb1⟩
      have r3 := own_mono r3 B0.size
      have o4 := own_mono o4 B0.size
      obtain ⟨A4, c4, rfl⟩ := Own.val o4
      replace bv := bv.below hb1 bv.lt
      replace bx := bx.below hb1 bx.lt
      replace by_ := by_.below hb1 by_.lt
      replace bo := bo.below hb1 bo.lt
      replace B0 := B0.trans (hb1.mono B0.size)
      clear hb1
      try go_wp2_with fail
      refine hK.out _ _ (by exact ⟨bx.cell 0, bx.cell 1, bx.cell 2, bx.cell 3, bx.cell 4, by_.cell 0, by_.cell 1⟩) (fun hHeld => ?_)
      clear hK K
      try simp only [Act.put, List.setIfInBounds_toArray, List.set_cons_zero, List.set_cons_succ]
      refine' wpAnyZ_takeA (i := 3) (v := ?_) (opAt rfl) (by kernel_rfl) (by kernel_rfl) (by kernel_rfl) (by kernel_rfl) (fun _ _ _ h => h) (by assumption) (by rfl) (fun w hSw => ?_) ?_
      rotate_left
      · (try dsimp only at hSw); go_simp; (try with_reducible rfl)
      try simp only [Act.put, List.setIfInBounds_toArray, List.set_cons_zero, List.set_cons_succ]
      refine wpAnyZ_ready (rs := [5]) (by kernel_rfl) (by simp) ?_
      refine AllReadyZ.last (opAt rfl) (by kernel_rfl) (fun K hK => ?_) ?_
      · skip
        refine wp_store_mid 51 (.tmp 5) (.tmp 9) rfl g5 0 #[.slice A1 n c1, .slice A4 ks.length c4, .int .i64 s, .int .i64 t, .int .i64 f, .int .i64 l, .int .i64 p, .int .i64 0, .int .u64 0, .slice none 0 0, .slice none 0 0, .int .i64 0, .int .i64 0, .int .i64 0, .int .i64 0, .int .i64 0, .int .i64 0, .int .i64 0, .int .u64 0, .int .i64 0, .slice none 0 0, .int .i64 0] (by rfl) (by rfl) (bv.there rfl) (by kernel_rfl) (by kernel_rfl) ?_
        refine hK.out _ _ ?_
        clear hK K
        try simp only [Act.put, List.setIfInBounds_toArray, List.set_cons_zero, List.set_cons_succ]
        refine wpAnyZ_done (by kernel_rfl) ?_ _
        replace r3 := (show World.ownsRow (w2.setCells g5 0 [.slice A1 n c1, .slice A4 ks.length c4, .int .i64 s, .int .i64 t, .int .i64 f, .int .i64 l, .int .i64 p, .int .i64 0, .int .u64 0, .slice none 0 0, .slice none 0 0, .int .i64 0, .int .i64 0, .int .i64 0, .int .i64 0, .int .i64 0, .int .i64 0, .int .i64 0, .int .u64 0, .int .i64 0, .slice none 0 0, .int .i64 0]) _ _ _ _ _ _ from by rw [putL_eq]; exact own_putT (by decide) _ _ _ 0 bv r3)
        replace o4 := (show World.ownsRow (w2.setCells g5 0 [.slice A1 n c1, .slice A4 ks.length c4, .int .i64 s, .int .i64 t, .int .i64 f, .int .i64 l, .int .i64 p, .int .i64 0, .int .u64 0, .slice none 0 0, .slice none 0 0, .int .i64 0, .int .i64 0, .int .i64 0, .int .i64 0, .int .i64 0, .int .i64 0, .int .i64 0, .int .u64 0, .int .i64 0, .slice none 0 0, .int .i64 0]) _ _ _ _ _ _ from by rw [putL_eq]; exact own_putT (by decide) _ _ _ 0 bv o4)
        replace bx := (show Blk (w2.setCells g5 0 [.slice A1 n c1, .slice A4 ks.length c4, .int .i64 s, .int .i64 t, .int .i64 f, .int .i64 l, .int .i64 p, .int .i64 0, .int .u64 0, .slice none 0 0, .slice none 0 0, .int .i64 0, .int .i64 0, .int .i64 0, .int .i64 0, .int .i64 0, .int .i64 0, .int .i64 0, .int .u64 0, .int .i64 0, .slice none 0 0, .int .i64 0]) _ _ _ from by rw [putL_eq]; exact Blk.offL (by have := HG5.out; omega) _ _ 0 bx)
        replace bo := (show Blk (w2.setCells g5 0 [.slice A1 n c1, .slice A4 ks.length c4, .int .i64 s, .int .i64 t, .int .i64 f, .int .i64 l, .int .i64 p, .int .i64 0, .int .u64 0, .slice none 0 0, .slice none 0 0, .int .i64 0, .int .i64 0, .int .i64 0, .int .i64 0, .int .i64 0, .int .i64 0, .int .i64 0, .int .u64 0, .int .i64 0, .slice none 0 0, .int .i64 0]) _ _ _ from by rw [putL_eq]; exact Blk.offL (by have := HG5.out; omega) _ _ 0 bo)
        replace B0 := (show Below w.heap.size w (w2.setCells g5 0 [.slice A1 n c1, .slice A4 ks.length c4, .int .i64 s, .int .i64 t, .int .i64 f, .int .i64 l, .int .i64 p, .int .i64 0, .int .u64 0, .slice none 0 0, .slice none 0 0, .int .i64 0, .int .i64 0, .int .i64 0, .int .i64 0, .int .i64 0, .int .i64 0, .int .i64 0, .int .u64 0, .int .i64 0, .slice none 0 0, .int .i64 0]) from by rw [putL_eq]; exact Below.putL (by have := HG5.out; omega) _ _ 0 B0)
        replace bv := (show Blk (w2.setCells g5 0 [.slice A1 n c1, .slice A4 ks.length c4, .int .i64 s, .int .i64 t, .int .i64 f, .int .i64 l, .int .i64 p, .int .i64 0, .int .u64 0, .slice none 0 0, .slice none 0 0, .int .i64 0, .int .i64 0, .int .i64 0, .int .i64 0, .int .i64 0, .int .i64 0, .int .i64 0, .int .u64 0, .int .i64 0, .slice none 0 0, .int .i64 0]) g5 51 #[.slice A1 n c1, .slice A4 ks.length c4, .int .i64 s, .int .i64 t, .int .i64 f, .int .i64 l, .int .i64 p, .int .i64 0, .int .u64 0, .slice none 0 0, .slice none 0 0, .int .i64 0, .int .i64 0, .int .i64 0, .int .i64 0, .int .i64 0, .int .i64 0, .int .i64 0, .int .u64 0, .int .i64 0, .slice none 0 0, .int .i64 0] from by rw [putL_eq]; have h9 := Blk.putL [.slice A1 n c1, .slice A4 ks.length c4, .int .i64 s, .int .i64 t, .int .i64 f, .int .i64 l, .int .i64 p, .int .i64 0, .int .u64 0, .slice none 0 0, .slice none 0 0, .int .i64 0, .int .i64 0, .int .i64 0, .int .i64 0, .int .i64 0, .int .i64 0, .int .i64 0, .int .u64 0, .int .i64 0, .slice none 0 0, .int .i64 0] _ _ 0 bv; simpa only [setL, List.setIfInBounds_toArray, List.set_cons_zero, List.set_cons_succ] using h9)
        clear by_ hHeld
        generalize w2.setCells g5 0 [.slice A1 n c1, .slice A4 ks.length c4, .int .i64 s, .int .i64 t, .int .i64 f, .int .i64 l, .int .i64 p, .int .i64 0, .int .u64 0, .slice none 0 0, .slice none 0 0, .int .i64 0, .int .i64 0, .int .i64 0, .int .i64 0, .int .i64 0, .int .i64 0, .int .i64 0, .int .u64 0, .int .i64 0, .slice none 0 0, .int .i64 0] = w9 at *
        have mx := fun i => bx.cell i
        go_wp2_with fail
        refine (SZ.out _).mono ?_
        rintro e w10 ⟨rfl, hb1⟩
        replace r3 := own_below r3 hb1
        replace o4 := own_below o4 hb1
        replace bo := bo.below hb1 bo.lt
        replace bv := bv.below hb1 bv.lt
        replace B0 := B0.trans (hb1.mono B0.size)
        clear hb1 mx bx
        have hm7 := bv.cell 7
        have hz7 := bv.frozen 7
        have bv2 := bv
        have bo2 := bo
        go_wp2_with (first | (refine wpList_load_mid rfl 51 (.tmp 5) rfl g5 0 (by rfl) [.slice A1 n c1, .slice A4 ks.length c4, .int .i64 s, .int .i64 t, .int .i64 f, .int .i64 l, .int .i64 p, .int .i64 0, .int .u64 0, .slice none 0 0, .slice none 0 0, .int .i64 0, .int .i64 0, .int .i64 0, .int .i64 0, .int .i64 0, .int .i64 0, .int .i64 0, .int .u64 0, .int .i64 0, .slice none 0 0, .int .i64 0] _ bv2.range Tryd.underlying51 rfl (by kernel_rfl) ?_) | (refine wpList_store_mid rfl 51 (.tmp 4) (.tmp 14) rfl (w.heap.size + 1 + 1) 0 #[.slice A1 n c1, .slice A4 ks.length c4, .int .i64 s, .int .i64 t, .int .i64 f, .int .i64 l, .int .i64 p, .int .i64 0, .int .u64 0, .slice none 0 0, .slice none 0 0, .int .i64 0, .int .i64 0, .int .i64 0, .int .i64 0, .int .i64 0, .int .i64 0, .int .i64 0, .int .u64 0, .int .i64 0, .slice none 0 0, .int .i64 0] (by rfl) (by rfl) (bo2.there rfl) (by kernel_rfl) (by kernel_rfl) ?_))
        replace r3 := (show World.ownsRow (w10.setCells (w.heap.size + 1 + 1) 0 [.slice A1 n c1, .slice A4 ks.length c4, .int .i64 s, .int .i64 t, .int .i64 f, .int .i64 l, .int .i64 p, .int .i64 0, .int .u64 0, .slice none 0 0, .slice none 0 0, .int .i64 0, .int .i64 0, .int .i64 0, .int .i64 0, .int .i64 0, .int .i64 0, .int .i64 0, .int .u64 0, .int .i64 0, .slice none 0 0, .int .i64 0]) _ _ _ _ _ _ from by rw [putL_eq]; exact own_putT (by decide) _ _ _ 0 bo2 r3)
        replace o4 := (show World.ownsRow (w10.setCells (w.heap.size + 1 + 1) 0 [.slice A1 n c1, .slice A4 ks.length c4, .int .i64 s, .int .i64 t, .int .i64 f, .int .i64 l, .int .i64 p, .int .i64 0, .int .u64 0, .slice none 0 0, .slice none 0 0, .int .i64 0, .int .i64 0, .int .i64 0, .int .i64 0, .int .i64 0, .int .i64 0, .int .i64 0, .int .u64 0, .int .i64 0, .slice none 0 0, .int .i64 0]) _ _ _ _ _ _ from by rw [putL_eq]; exact own_putT (by decide) _ _ _ 0 bo2 o4)
        replace B0 := (show Below w.heap.size w (w10.setCells (w.heap.size + 1 + 1) 0 [.slice A1 n c1, .slice A4 ks.length c4, .int .i64 s, .int .i64 t, .int .i64 f, .int .i64 l, .int .i64 p, .int .i64 0, .int .u64 0, .slice none 0 0, .slice none 0 0, .int .i64 0, .int .i64 0, .int .i64 0, .int .i64 0, .int .i64 0, .int .i64 0, .int .i64 0, .int .u64 0, .int .i64 0, .slice none 0 0, .int .i64 0]) from by rw [putL_eq]; exact Below.putL (by omega) _ _ 0 B0)
        have bo3 := (show Blk (w10.setCells (w.heap.size + 1 + 1) 0 [.slice A1 n c1, .slice A4 ks.length c4, .int .i64 s, .int .i64 t, .int .i64 f, .int .i64 l, .int .i64 p, .int .i64 0, .int .u64 0, .slice none 0 0, .slice none 0 0, .int .i64 0, .int .i64 0, .int .i64 0, .int .i64 0, .int .i64 0, .int .i64 0, .int .i64 0, .int .u64 0, .int .i64 0, .slice none 0 0, .int .i64 0]) (w.heap.size + 1 + 1) 51 #[.slice A1 n c1, .slice A4 ks.length c4, .int .i64 s, .int .i64 t, .int .i64 f, .int .i64 l, .int .i64 p, .int .i64 0, .int .u64 0, .slice none 0 0, .slice none 0 0, .int .i64 0, .int .i64 0, .int .i64 0, .int .i64 0, .int .i64 0, .int .i64 0, .int .i64 0, .int .u64 0, .int .i64 0, .slice none 0 0, .int .i64 0] from by rw [putL_eq]; have h9 := Blk.putL [.slice A1 n c1, .slice A4 ks.length c4, .int .i64 s, .int .i64 t, .int .i64 f, .int .i64 l, .int .i64 p, .int .i64 0, .int .u64 0, .slice none 0 0, .slice none 0 0, .int .i64 0, .int .i64 0, .int .i64 0, .int .i64 0, .int .i64 0, .int .i64 0, .int .i64 0, .int .u64 0, .int .i64 0, .slice none 0 0, .int .i64 0] _ _ 0 bo2; simpa only [setL, List.setIfInBounds_toArray, List.set_cons_zero, List.set_cons_succ] using h9)
        generalize w10.setCells (w.heap.size + 1 + 1) 0 [.slice A1 n c1, .slice A4 ks.length c4, .int .i64 s, .int .i64 t, .int .i64 f, .int .i64 l, .int .i64 p, .int .i64 0, .int .u64 0, .slice none 0 0, .slice none 0 0, .int .i64 0, .int .i64 0, .int .i64 0, .int .i64 0, .int .i64 0, .int .i64 0, .int .i64 0, .int .u64 0, .int .i64 0, .slice none 0 0, .int .i64 0] = w12 at *
        have hres : (loadVar 51 ⟨w.heap.size + 1 + 1, 0, none⟩).run Tryd.prog w12 = .ok (.agg #[.slice A1 n c1, .slice A4 ks.length c4, .int .i64 s, .int .i64 t, .int .i64 f, .int .i64 l, .int .i64 p, .int .i64 0, .int .u64 0, .slice none 0 0, .slice none 0 0, .int .i64 0, .int .i64 0, .int .i64 0, .int .i64 0, .int .i64 0, .int .i64 0, .int .i64 0, .int .u64 0, .int .i64 0, .slice none 0 0, .int .i64 0]) w12 := run_loadVar_mid w12 _ 0 _ [.slice A1 n c1, .slice A4 ks.length c4, .int .i64 s, .int .i64 t, .int .i64 f, .int .i64 l, .int .i64 p, .int .i64 0, .int .u64 0, .slice none 0 0, .slice none 0 0, .int .i64 0, .int .i64 0, .int .i64 0, .int .i64 0, .int .i64 0, .int .i64 0, .int .i64 0, .int .u64 0, .int .i64 0, .slice none 0 0, .int .i64 0] _ bo3.range Tryd.underlying51 rfl (by kernel_rfl)
        refine bodyPost_ret (v := .agg #[.slice A1 n c1, .slice A4 ks.length c4, .int .i64 s, .int .i64 t, .int .i64 f, .int .i64 l, .int .i64 p, .int .i64 0, .int .u64 0, .slice none 0 0, .slice none 0 0, .int .i64 0, .int .i64 0, .int .i64 0, .int .i64 0, .int .i64 0, .int .i64 0, .int .i64 0, .int .u64 0, .int .i64 0, .slice none 0 0, .int .i64 0]) (by simp [results, Tryd.results17, Act.put, asAddr, hres]) rfl ⟨⟨A1, c1, A4, c4, rfl, r3, o4⟩, B0⟩
      exact AllReadyZ.nil
    exact AllReadyZ.nil
  exact AllReadyZ.nil
end Go.Proofs.YtokcbipmocpllaaDoor

